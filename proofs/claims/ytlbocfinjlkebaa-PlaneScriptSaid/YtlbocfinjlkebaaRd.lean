/- The document's planes of ints: Lay. -/
import Derived.Test.YtlbocfinjlkebaaRc
namespace Go.Proofs.Ytlbocfinjlkebaa.R12
open Go.RowKit Go.Proofs.Ytlbocfinjlkebaa.Byt

/-- a sample behind Lay -/
def layF (W W' H' : Nat) (x y : Int) (zs ys : List Int) (i j : Nat) : Int :=
  if x ≤ i ∧ (i : Int) < x + W' ∧ y ≤ j ∧ (j : Int) < y + H' then ys.getD (((j : Int) - y).toNat * W' + ((i : Int) - x).toNat) 0 else zs.getD (j * W + i) 0
/-- n samples are new, the others as they were -/
def mixL (f : Nat → Nat → Int) (W : Nat) (zs : List Int) (n : Nat) : List Int := gridL W f n ++ zs.drop n
theorem mix_set {f : Nat → Nat → Int} {W i j n : Nat} {zs : List Int} (hi : i < W) (hn : j * W + i = n) (hl : n < zs.length) : (mixL f W zs n).set n (f i j) = mixL f W zs (n + 1) := by
  unfold mixL
  rw [List.set_append_right _ _ (by rw [gridL_length]; exact Nat.le_refl _), gridL_length, Nat.sub_self, List.drop_eq_getElem_cons hl, List.set_cons_zero, gridL_next f hi hn, List.append_assoc]
  rfl
theorem mix_keep {f : Nat → Nat → Int} {W i j n : Nat} {zs : List Int} (hi : i < W) (hn : j * W + i = n) (hl : n < zs.length) (hf : f i j = zs.getD n 0) : mixL f W zs n = mixL f W zs (n + 1) := by
  unfold mixL
  rw [gridL_next f hi hn, List.append_assoc, List.drop_eq_getElem_cons hl, hf, List.getD_eq_getElem?_getD, List.getElem?_eq_getElem hl]
  rfl
/-- the program's Lay, in numbers -/
def laidZ (W H W' H' : Nat) (x y : Int) (zs ys : List Int) : List Int := if x < W ∧ y < H ∧ -(W' : Int) < x ∧ -(H' : Int) < y then layZ W H W' H' x y zs ys else zs
theorem getD_map (k : IntKind) {l : List Int} {u : List Value} (h : l.map (Value.int k) = u) (j : Nat) : u[j]? = if j < l.length then some (.int k (l.getD j 0)) else none := by
  rw [← h]
  exact getD_int l k j
theorem laid_over {W H W' H' : Nat} {x y : Int} {zs ys : List Int} (hl : zs.length = W * H) (hy : ys.length = W' * H') (h1 : 1 ≤ W) (h2 : 1 ≤ H) (h3 : 1 ≤ W') (h4 : 1 ≤ H') : laidZ W H W' H' x y zs ys = gridL W (layF W W' H' x y zs ys) (H * W) := by
  unfold laidZ
  by_cases hc : (x : Int) < W ∧ y < H ∧ -(W' : Int) < x ∧ -(H' : Int) < y
  · rw [if_pos hc]
    have e := layL_ints .i64 W H W' H' x y zs ys
    have hxl : (zs.map (Value.int .i64)).length = W * H := by simpa using hl
    have hyl : (ys.map (Value.int .i64)).length = W' * H' := by simpa using hy
    have len : (layZ W H W' H' x y zs ys).length = W * H := by
      have := layL_length hxl hyl h1 h3 h2 h4 hc.1 hc.2.2.1 hc.2.1 hc.2.2.2
      rw [e] at this
      simpa using this
    rw [eq_gridL (d := (0 : Int)) len]
    apply gridL_ext
    intro i j hi hj
    have h5 := layL_get hxl hyl h1 h3 h2 h4 hc.1 hc.2.2.1 hc.2.1 hc.2.2.2 i j hi hj
    have hb : j * W + i < W * H := by rw [Nat.mul_comm W H]; exact row_lt hj hi
    rw [e, getD_int, if_pos (by rw [len]; exact hb)] at h5
    unfold layF
    split at h5
    · rename_i hcc
      rw [if_pos hcc]
      rw [getD_int] at h5
      split at h5
      · injection h5 with h5
        injection h5
      · cases h5
    · rename_i hcc
      rw [if_neg hcc]
      rw [getD_int, if_pos (by rw [hl]; exact hb)] at h5
      injection h5 with h5
      injection h5
  · rw [if_neg hc, gridL_ext (g := fun i j => zs.getD (j * W + i) 0)]
    · exact eq_gridL hl
    · intro i j hi hj
      unfold layF
      rw [if_neg (by omega)]
theorem sl_keep {w w' : World} {b o n : Nat} {xs : List Value} {row : Option Nat} (h : Sl w (some ⟨b, o, none⟩) n xs) (hg : w.grownBy w' row) (h2 : some b ≠ row) : Sl w' (some ⟨b, o, none⟩) n xs := by
  refine ⟨h.1, fun h0 => ⟨b, o, rfl, fun j hj => ?_⟩⟩
  obtain ⟨b', o', e, hd⟩ := h.2 h0
  injection e with e
  injection e with e1 e2
  subst e1 e2
  have h3 := hd j hj
  have h4 : j < xs.length := by rw [h.1]; exact hj
  rw [List.getElem?_eq_getElem h4] at h3
  have h5 := World.block_lt_of_cell? w _ h3
  have e : w'.cell? ⟨b, o + j, none⟩ = w.cell? ⟨b, o + j, none⟩ := by
    have := hg.block b h5 h2
    unfold World.cell?
    rw [this]
  rw [e, h3, List.getElem?_eq_getElem h4]
theorem sl_int {w : World} {b o n : Nat} {l : List Int} (h : Sl w (some ⟨b, o, none⟩) n (l.map (.int .i64))) {k : Nat} (hk : k < n) : w.cell? ⟨b, o + k, none⟩ = some (.int .i64 (l.getD k 0)) := by
  obtain ⟨b', o', e, hd⟩ := h.2 (by omega)
  injection e with e
  injection e with e1 e2
  subst e1 e2
  have h1 := hd k hk
  have h2 : k < l.length := by have := h.1; simp at this; omega
  rw [h1, getD_int, if_pos h2]

set_option maxHeartbeats 2000000 in
theorem lay_nil (b : Nat) (x y : Int) (w : World) :
    Calls Try.prog 102 #[.pointer (some ⟨b, 0, none⟩), .pointer none, .int .i64 x, .int .i64 y] w fun e w' => e = .returned (.tuple #[]) ∧ w = w' := by
  go_enter Try.func102, Try.ntmps102
  go_wp2_with fail
  refine bodyPost_ret (results_none rfl _ _ _) rfl ?_
  exact ⟨rfl, rfl⟩

def LaidR (w : World) (b g W H c : Nat) (zs : List Int) (e : Ending) (w' : World) : Prop := e = .returned (.tuple #[]) ∧ RA w' b g W H c zs ∧ w.grownBy w' (some g)
set_option maxRecDepth 100000 in
set_option maxHeartbeats 16000000 in
theorem lay_any (b g W H c b' g' W' H' c' : Nat) (zs ys : List Int) (x y : Int) (w : World) (hp : RA w b g W H c zs) (ho : RA w b' g' W' H' c' ys) (hbg : b' ≠ g)
    (hx1 : -9223372036854775808 ≤ x) (hy1 : -9223372036854775808 ≤ y) :
    Calls Try.prog 102 #[.pointer (some ⟨b, 0, none⟩), .pointer (some ⟨b', 0, none⟩), .int .i64 x, .int .i64 y] w (LaidR w b g W H c (laidZ W H W' H' x y zs ys)) := by
  have hl : zs.length = W * H := by simpa using hp.len
  have hly : ys.length = W' * H' := by simpa using ho.len
  rw [laid_over hl hly hp.wide hp.high ho.wide ho.high]
  have hs := hp.side
  have hs' := ho.side
  have hsz := hp.size
  have hsz' := ho.size
  have hW := hp.wide
  have HL := Lib.hid hl; clear hl
  have HLY := Lib.hid hly; clear hly
  go_enter Try.func102, Try.ntmps102
  go_wp2_with fail
  refine (pix_any b' g' W' H' c' ys w ho).mono ?_
  rintro e w1 ⟨go, co, rfl, hso, hgo, hco1, hco2, b1⟩
  have hp1 := hp.below b1
  have ho1 := ho.below b1
  have hgg : go ≠ g := by have := hp.glt; omega
  have g0 : w.grownBy w1 (some g) := grown_of_below b1 _
  obtain ⟨N', hN'⟩ : ∃ N', W' * H' = N' := ⟨_, rfl⟩
  rw [hN'] at hso hsz' hco1 ⊢
  have HN' := Lib.hid hN'; clear hN'
  obtain ⟨f, hf⟩ : ∃ f, layF W W' H' x y zs ys = f := ⟨_, rfl⟩
  rw [hf]
  have HF := Lib.hid hf; clear hf
  go_wp2_with fail
  go_loopw [9] (fun t wr => ∃ j n : Nat, j ≤ H ∧ j * W = n ∧ t = .int .i64 j ∧ RA wr b g W H c (mixL f W zs n) ∧ w1.grownBy wr (some g)) (fun t _ => H - (intOf t).toNat)
  case atStart => exact ⟨0, 0, Nat.zero_le _, Nat.zero_mul _, rfl, by simpa [mixL, gridL] using hp1, World.grownBy.refl _ _⟩
  clear hp1
  case round =>
    obtain ⟨j, n, hj, hn, rfl, hpr, hgr⟩ := hrel
    have HNN := Lib.hid hn; clear hn
    have d1 := hpr.c1
    by_cases hlt : j < H
    · go_wp2_with fail
      clear d1
      go_loopw [10] (fun t wr => ∃ i m : Nat, i ≤ W ∧ n + i = m ∧ t = .int .i64 i ∧ RA wr b g W H c (mixL f W zs m) ∧ w1.grownBy wr (some g)) (fun t _ => W - (intOf t).toNat)
      case atStart => exact ⟨0, n, Nat.zero_le _, rfl, rfl, hpr, hgr⟩
      clear hpr hgr
      case round =>
        obtain ⟨i, m, hi', hm, rfl, hpr, hgr⟩ := hrel
        have d0 := hpr.c0
        by_cases hil : i < W
        · have e0 : wr.cell? ⟨b', 0, none⟩ = some (.int .i64 W') := by rw [(ho1.blk.grown hgr (by simp; exact hbg)).cell]; rfl
          have e1 : wr.cell? ⟨b', 1, none⟩ = some (.int .i64 H') := by rw [(ho1.blk.grown hgr (by simp; exact hbg)).cell]; rfl
          have hji : j * W + i = m := by rw [HNN.out, hm]
          have hml : m < zs.length := by rw [HL.out, Nat.mul_comm W H, ← hji]; exact row_lt hlt hil
          have HJI := Lib.hid hji; clear hji
          by_cases hC : x ≤ i ∧ (i : Int) < x + W' ∧ y ≤ j ∧ (j : Int) < y + H'
          · have wX : x < 0 → IntKind.i64.wrap ((W' : Int) + x) = (W' : Int) + x := fun h => IntWalk.i64_in _ (by omega)
            have wY : y < 0 → IntKind.i64.wrap ((H' : Int) + y) = (H' : Int) + y := fun h => IntWalk.i64_in _ (by omega)
            have hset := mix_set (f := f) hil HJI.out hml
            have hfv : f i j = ys.getD (((j : Int) - y).toNat * W' + ((i : Int) - x).toNat) 0 := by rw [← HF.out]; unfold layF; rw [if_pos hC]
            obtain ⟨ii, hii⟩ : ∃ ii : Nat, (i : Int) - x = ii := ⟨((i : Int) - x).toNat, by omega⟩
            obtain ⟨jj, hjj⟩ : ∃ jj : Nat, (j : Int) - y = jj := ⟨((j : Int) - y).toNat, by omega⟩
            have bi : ii < W' := by omega
            have bj : jj < H' := by omega
            rw [show ((j : Int) - y).toNat = jj by omega, show ((i : Int) - x).toNat = ii by omega] at hfv
            obtain ⟨m', hm'⟩ : ∃ m', jj * W' = m' := ⟨_, rfl⟩
            have hmi' : (W' : Int) * (jj : Int) = (m' : Int) := by rw [← hm', Int.natCast_mul, Int.mul_comm]
            have bidx : m' + ii < N' := by
              have h1 : (jj + 1) * W' ≤ H' * W' := Nat.mul_le_mul_right W' bj
              rw [Nat.add_mul, Nat.one_mul, hm', Nat.mul_comm H' W', HN'.out] at h1
              omega
            rw [hm'] at hfv
            have e3 : wr.cell? ⟨go, m' + ii, none⟩ = some (.int .i64 (ys.getD (m' + ii) 0)) := by
              have := sl_int (sl_keep hso hgr (by simp; exact hgg)) bidx
              rwa [Nat.zero_add] at this
            rw [hfv] at hset
            obtain ⟨v, hv⟩ : ∃ v, ys.getD (m' + ii) 0 = v := ⟨_, rfl⟩
            rw [hv] at e3 hset
            clear hv hfv hm'
            obtain ⟨m0, hm0⟩ : ∃ m0, j * W = m0 := ⟨_, rfl⟩
            have hmi0 : (W : Int) * (j : Int) = (m0 : Int) := by rw [← hm0, Int.natCast_mul, Int.mul_comm]
            have hm0m : m0 + i = m := by rw [← hm0]; exact HJI.out
            obtain ⟨N, hN⟩ : ∃ N, W * H = N := ⟨_, rfl⟩
            have bidx0 : m0 + i < N := by
              rw [← hN, ← HL.out, hm0m]
              exact hml
            have hpr2 := hpr.c2
            have fr := hpr.frozenAt (m0 + i)
            have dz := hpr.cellZ (j := m0 + i) (by rw [hN]; exact bidx0)
            rw [hN] at hpr2
            have hN67 : N ≤ 67108864 := by rw [← hN]; exact hsz
            have HN := Lib.hid hN; clear hN
            have HM0 := Lib.hid hm0; clear hm0
            have HM0M := Lib.hid hm0m; clear hm0m
            have HSET := Lib.hid hset; clear hset
            generalize (mixL f W zs m).getD (m0 + i) 0 = oldv at dz
            have i1 : (m0 : Int) + (i : Int) < (N : Int) := by omega
            have i2 : 0 ≤ (m0 : Int) + (i : Int) := by omega
            have i3 : ((m0 : Int) + (i : Int)).toNat = m0 + i := by omega
            have i4 : IntKind.i64.wrap ((m0 : Int) + (i : Int)) = (m0 : Int) + (i : Int) := IntWalk.i64_in _ (by omega)
            have i5 : IntKind.i64.wrap (m0 : Int) = (m0 : Int) := IntWalk.i64_in _ (by omega)
            have j1 : (m' : Int) + (ii : Int) < (N' : Int) := by omega
            have j2 : 0 ≤ (m' : Int) + (ii : Int) := by omega
            have j3 : ((m' : Int) + (ii : Int)).toNat = m' + ii := by omega
            have j4 : IntKind.i64.wrap ((m' : Int) + (ii : Int)) = (m' : Int) + (ii : Int) := IntWalk.i64_in _ (by omega)
            have j5 : IntKind.i64.wrap (m' : Int) = (m' : Int) := IntWalk.i64_in _ (by omega)
            have j6 : IntKind.i64.wrap (ii : Int) = (ii : Int) := IntWalk.i64_in _ (by omega)
            have j7 : IntKind.i64.wrap (jj : Int) = (jj : Int) := IntWalk.i64_in _ (by omega)
            have p1 : x ≤ i := hC.1
            have p2 : y ≤ j := hC.2.2.1
            by_cases hx0 : 0 ≤ x
            · have x1 : 0 ≤ x := by omega
              by_cases hy0 : 0 ≤ y
              · have y1 : 0 ≤ y := by omega
                clear wX wY
                go_upto_region 8 with fail
                dsimp only [List.append]
                go_upto_region 9 with fail
                refine Lex3.wp_region_lex [] (fun u' => u'.cell? ⟨b, 0, none⟩ = some (.int .i64 W) ∧ u'.cell? ⟨b, 2, none⟩ = some (.slice (some ⟨g, 0, none⟩) N c) ∧ u'.cell? ⟨b', 0, none⟩ = some (.int .i64 W') ∧ u'.cell? ⟨go, m' + ii, none⟩ = some (.int .i64 v)) (fun u n h => h) ⟨d0, hpr2, e0, e3⟩ (by kernel_rfl) (by kernel_rfl) ?_
                refine Lex3.run_free (v := ?_) (by rfl) (by rfl) (fun u => ?_) ?_; rotate_left; (go_simp; try with_reducible rfl); simp only [Act.put, List.setIfInBounds_toArray, List.set_cons_zero, List.set_cons_succ]
                refine Lex3.run_free (v := ?_) (by rfl) (by rfl) (fun u => ?_) ?_; rotate_left; (go_simp; try with_reducible rfl); simp only [Act.put, List.setIfInBounds_toArray, List.set_cons_zero, List.set_cons_succ]
                refine Lex3.run_free (v := ?_) (by rfl) (by rfl) (fun u => ?_) ?_; rotate_left; (go_simp; try with_reducible rfl); simp only [Act.put, List.setIfInBounds_toArray, List.set_cons_zero, List.set_cons_succ]
                refine Lex3.run_load (v := ?_) (by rfl) (by rfl) (fun u hu => ?_) ?_; rotate_left; (obtain ⟨hu0, hu1, hu2, hu3⟩ := hu; go_simp; try with_reducible rfl); simp only [Act.put, List.setIfInBounds_toArray, List.set_cons_zero, List.set_cons_succ]
                refine Lex3.run_free (v := ?_) (by rfl) (by rfl) (fun u => ?_) ?_; rotate_left; (go_simp; try with_reducible rfl); simp only [Act.put, List.setIfInBounds_toArray, List.set_cons_zero, List.set_cons_succ]
                refine Lex3.run_free (v := ?_) (by rfl) (by rfl) (fun u => ?_) ?_; rotate_left; (go_simp; try with_reducible rfl); simp only [Act.put, List.setIfInBounds_toArray, List.set_cons_zero, List.set_cons_succ]
                refine Lex3.run_free (v := ?_) (by rfl) (by rfl) (fun u => ?_) ?_; rotate_left; (go_simp; try with_reducible rfl); simp only [Act.put, List.setIfInBounds_toArray, List.set_cons_zero, List.set_cons_succ]
                refine Lex3.run_load (v := ?_) (by rfl) (by rfl) (fun u hu => ?_) ?_; rotate_left; (obtain ⟨hu0, hu1, hu2, hu3⟩ := hu; go_simp; try with_reducible rfl); simp only [Act.put, List.setIfInBounds_toArray, List.set_cons_zero, List.set_cons_succ]
                refine Lex3.run_free (v := ?_) (by rfl) (by rfl) (fun u => ?_) ?_; rotate_left; (go_simp; try with_reducible rfl); simp only [Act.put, List.setIfInBounds_toArray, List.set_cons_zero, List.set_cons_succ]
                refine Lex3.run_free (v := ?_) (by rfl) (by rfl) (fun u => ?_) ?_; rotate_left; (go_simp; try with_reducible rfl); simp only [Act.put, List.setIfInBounds_toArray, List.set_cons_zero, List.set_cons_succ]
                refine Lex3.run_free (v := ?_) (by rfl) (by rfl) (fun u => ?_) ?_; rotate_left; (go_simp; try with_reducible rfl); simp only [Act.put, List.setIfInBounds_toArray, List.set_cons_zero, List.set_cons_succ]
                refine Lex3.run_free (v := ?_) (by rfl) (by rfl) (fun u => ?_) ?_; rotate_left; (go_simp; try with_reducible rfl); simp only [Act.put, List.setIfInBounds_toArray, List.set_cons_zero, List.set_cons_succ]
                refine Lex3.run_free (v := ?_) (by rfl) (by rfl) (fun u => ?_) ?_; rotate_left; (go_simp; try with_reducible rfl); simp only [Act.put, List.setIfInBounds_toArray, List.set_cons_zero, List.set_cons_succ]
                refine Lex3.run_free (v := ?_) (by rfl) (by rfl) (fun u => ?_) ?_; rotate_left; (go_simp; try with_reducible rfl); simp only [Act.put, List.setIfInBounds_toArray, List.set_cons_zero, List.set_cons_succ]
                refine Lex3.run_free (v := ?_) (by rfl) (by rfl) (fun u => ?_) ?_; rotate_left; (go_simp; try with_reducible rfl); simp only [Act.put, List.setIfInBounds_toArray, List.set_cons_zero, List.set_cons_succ]
                refine Lex3.run_free (v := ?_) (by rfl) (by rfl) (fun u => ?_) ?_; rotate_left; (go_simp; try with_reducible rfl); simp only [Act.put, List.setIfInBounds_toArray, List.set_cons_zero, List.set_cons_succ]
                refine Lex3.run_load (v := ?_) (by rfl) (by rfl) (fun u hu => ?_) ?_; rotate_left; (obtain ⟨hu0, hu1, hu2, hu3⟩ := hu; go_simp; try with_reducible rfl); simp only [Act.put, List.setIfInBounds_toArray, List.set_cons_zero, List.set_cons_succ]
                refine Lex3.run_free (v := ?_) (by rfl) (by rfl) (fun u => ?_) ?_; rotate_left; (go_simp; try with_reducible rfl); simp only [Act.put, List.setIfInBounds_toArray, List.set_cons_zero, List.set_cons_succ]
                refine Lex3.run_free (v := ?_) (by rfl) (by rfl) (fun u => ?_) ?_; rotate_left; (go_simp; try with_reducible rfl); simp only [Act.put, List.setIfInBounds_toArray, List.set_cons_zero, List.set_cons_succ]
                refine Lex3.run_free (v := ?_) (by rfl) (by rfl) (fun u => ?_) ?_; rotate_left; (go_simp; try with_reducible rfl); simp only [Act.put, List.setIfInBounds_toArray, List.set_cons_zero, List.set_cons_succ]
                refine Lex3.run_free (v := ?_) (by rfl) (by rfl) (fun u => ?_) ?_; rotate_left; (go_simp; try with_reducible rfl); simp only [Act.put, List.setIfInBounds_toArray, List.set_cons_zero, List.set_cons_succ]
                refine Lex3.run_free (v := ?_) (by rfl) (by rfl) (fun u => ?_) ?_; rotate_left; (go_simp; try with_reducible rfl); simp only [Act.put, List.setIfInBounds_toArray, List.set_cons_zero, List.set_cons_succ]
                refine Lex3.run_free (v := ?_) (by rfl) (by rfl) (fun u => ?_) ?_; rotate_left; (go_simp; try with_reducible rfl); simp only [Act.put, List.setIfInBounds_toArray, List.set_cons_zero, List.set_cons_succ]
                refine Lex3.run_free (v := ?_) (by rfl) (by rfl) (fun u => ?_) ?_; rotate_left; (go_simp; try with_reducible rfl); simp only [Act.put, List.setIfInBounds_toArray, List.set_cons_zero, List.set_cons_succ]
                refine Lex3.run_free (v := ?_) (by rfl) (by rfl) (fun u => ?_) ?_; rotate_left; (go_simp; try with_reducible rfl); simp only [Act.put, List.setIfInBounds_toArray, List.set_cons_zero, List.set_cons_succ]
                refine Lex3.run_free (v := ?_) (by rfl) (by rfl) (fun u => ?_) ?_; rotate_left; (go_simp; try with_reducible rfl); simp only [Act.put, List.setIfInBounds_toArray, List.set_cons_zero, List.set_cons_succ]
                refine Lex3.run_load (v := ?_) (by rfl) (by rfl) (fun u hu => ?_) ?_; rotate_left; (obtain ⟨hu0, hu1, hu2, hu3⟩ := hu; go_simp; try with_reducible rfl); simp only [Act.put, List.setIfInBounds_toArray, List.set_cons_zero, List.set_cons_succ]
                refine Lex3.run_free (v := ?_) (by rfl) (by rfl) (fun u => ?_) ?_; rotate_left; (go_simp; try with_reducible rfl); simp only [Act.put, List.setIfInBounds_toArray, List.set_cons_zero, List.set_cons_succ]
                refine Lex3.run_eff (by rfl) (by rfl) (fun n' K' hK => ?_)
                have fr' : (wr.drewN (1 + n')).frozen? ⟨g, m0 + i, none⟩ = false := fr
                have dz' : (wr.drewN (1 + n')).cell? ⟨g, m0 + i, none⟩ = some (.int .i64 oldv) := dz
                go_simp
                have hp5 : RA ((wr.drewN (1 + n')).setCell ⟨g, m0 + i, none⟩ (.int .i64 v)) b g W H c (mixL f W zs (m + 1)) := by
                  have h5 := (show RA (wr.drewN (1 + n')) b g W H c (mixL f W zs m) from hpr.drewN _).set (m0 + i) (.int .i64 v)
                  rw [← List.map_set, HM0M.out, HSET.out] at h5
                  rw [HM0M.out]
                  exact h5
                have hg5 : w1.grownBy ((wr.drewN (1 + n')).setCell ⟨g, m0 + i, none⟩ (.int .i64 v)) (some g) := grown_set (grown_drewN hgr _) _ _
                refine hK _ _ ⟨hp5.c0, by rw [hp5.c2, HN.out], ?_, ?_⟩ ?_
                · rw [(ho1.blk.grown hg5 (by simp; exact hbg)).cell]
                  rfl
                · have h6 : ((wr.drewN (1 + n')).setCell ⟨g, m0 + i, none⟩ (.int .i64 v)).heap[go]? = wr.heap[go]? := heap_setCell_other _ _ _ _ hgg
                  rw [← e3]
                  unfold World.cell?
                  rw [h6]
                clear hK K'
                try simp only [Act.put, List.setIfInBounds_toArray, List.set_cons_zero, List.set_cons_succ]
                refine Lex3.run_nil (fun n3 => ?_)
                go_wp2_with fail
                go_roundw
                case rel => exact ⟨i + 1, m + 1, by omega, by omega, by go_num, hp5.drewN n3, grown_drewN hg5 n3⟩
                case measure => simp [intOf]; omega
              · have y1 : ¬ 0 ≤ y := by omega
                have y2 : (j : Int) < (H' : Int) + y := by omega
                have wy := wY (by omega)
                clear wX wY
                go_upto_region 8 with fail
                dsimp only [List.append]
                go_upto_region 9 with fail
                refine Lex3.wp_region_lex [] (fun u' => u'.cell? ⟨b, 0, none⟩ = some (.int .i64 W) ∧ u'.cell? ⟨b, 2, none⟩ = some (.slice (some ⟨g, 0, none⟩) N c) ∧ u'.cell? ⟨b', 0, none⟩ = some (.int .i64 W') ∧ u'.cell? ⟨go, m' + ii, none⟩ = some (.int .i64 v)) (fun u n h => h) ⟨d0, hpr2, e0, e3⟩ (by kernel_rfl) (by kernel_rfl) ?_
                refine Lex3.run_free (v := ?_) (by rfl) (by rfl) (fun u => ?_) ?_; rotate_left; (go_simp; try with_reducible rfl); simp only [Act.put, List.setIfInBounds_toArray, List.set_cons_zero, List.set_cons_succ]
                refine Lex3.run_free (v := ?_) (by rfl) (by rfl) (fun u => ?_) ?_; rotate_left; (go_simp; try with_reducible rfl); simp only [Act.put, List.setIfInBounds_toArray, List.set_cons_zero, List.set_cons_succ]
                refine Lex3.run_free (v := ?_) (by rfl) (by rfl) (fun u => ?_) ?_; rotate_left; (go_simp; try with_reducible rfl); simp only [Act.put, List.setIfInBounds_toArray, List.set_cons_zero, List.set_cons_succ]
                refine Lex3.run_load (v := ?_) (by rfl) (by rfl) (fun u hu => ?_) ?_; rotate_left; (obtain ⟨hu0, hu1, hu2, hu3⟩ := hu; go_simp; try with_reducible rfl); simp only [Act.put, List.setIfInBounds_toArray, List.set_cons_zero, List.set_cons_succ]
                refine Lex3.run_free (v := ?_) (by rfl) (by rfl) (fun u => ?_) ?_; rotate_left; (go_simp; try with_reducible rfl); simp only [Act.put, List.setIfInBounds_toArray, List.set_cons_zero, List.set_cons_succ]
                refine Lex3.run_free (v := ?_) (by rfl) (by rfl) (fun u => ?_) ?_; rotate_left; (go_simp; try with_reducible rfl); simp only [Act.put, List.setIfInBounds_toArray, List.set_cons_zero, List.set_cons_succ]
                refine Lex3.run_free (v := ?_) (by rfl) (by rfl) (fun u => ?_) ?_; rotate_left; (go_simp; try with_reducible rfl); simp only [Act.put, List.setIfInBounds_toArray, List.set_cons_zero, List.set_cons_succ]
                refine Lex3.run_load (v := ?_) (by rfl) (by rfl) (fun u hu => ?_) ?_; rotate_left; (obtain ⟨hu0, hu1, hu2, hu3⟩ := hu; go_simp; try with_reducible rfl); simp only [Act.put, List.setIfInBounds_toArray, List.set_cons_zero, List.set_cons_succ]
                refine Lex3.run_free (v := ?_) (by rfl) (by rfl) (fun u => ?_) ?_; rotate_left; (go_simp; try with_reducible rfl); simp only [Act.put, List.setIfInBounds_toArray, List.set_cons_zero, List.set_cons_succ]
                refine Lex3.run_free (v := ?_) (by rfl) (by rfl) (fun u => ?_) ?_; rotate_left; (go_simp; try with_reducible rfl); simp only [Act.put, List.setIfInBounds_toArray, List.set_cons_zero, List.set_cons_succ]
                refine Lex3.run_free (v := ?_) (by rfl) (by rfl) (fun u => ?_) ?_; rotate_left; (go_simp; try with_reducible rfl); simp only [Act.put, List.setIfInBounds_toArray, List.set_cons_zero, List.set_cons_succ]
                refine Lex3.run_free (v := ?_) (by rfl) (by rfl) (fun u => ?_) ?_; rotate_left; (go_simp; try with_reducible rfl); simp only [Act.put, List.setIfInBounds_toArray, List.set_cons_zero, List.set_cons_succ]
                refine Lex3.run_free (v := ?_) (by rfl) (by rfl) (fun u => ?_) ?_; rotate_left; (go_simp; try with_reducible rfl); simp only [Act.put, List.setIfInBounds_toArray, List.set_cons_zero, List.set_cons_succ]
                refine Lex3.run_free (v := ?_) (by rfl) (by rfl) (fun u => ?_) ?_; rotate_left; (go_simp; try with_reducible rfl); simp only [Act.put, List.setIfInBounds_toArray, List.set_cons_zero, List.set_cons_succ]
                refine Lex3.run_free (v := ?_) (by rfl) (by rfl) (fun u => ?_) ?_; rotate_left; (go_simp; try with_reducible rfl); simp only [Act.put, List.setIfInBounds_toArray, List.set_cons_zero, List.set_cons_succ]
                refine Lex3.run_free (v := ?_) (by rfl) (by rfl) (fun u => ?_) ?_; rotate_left; (go_simp; try with_reducible rfl); simp only [Act.put, List.setIfInBounds_toArray, List.set_cons_zero, List.set_cons_succ]
                refine Lex3.run_load (v := ?_) (by rfl) (by rfl) (fun u hu => ?_) ?_; rotate_left; (obtain ⟨hu0, hu1, hu2, hu3⟩ := hu; go_simp; try with_reducible rfl); simp only [Act.put, List.setIfInBounds_toArray, List.set_cons_zero, List.set_cons_succ]
                refine Lex3.run_free (v := ?_) (by rfl) (by rfl) (fun u => ?_) ?_; rotate_left; (go_simp; try with_reducible rfl); simp only [Act.put, List.setIfInBounds_toArray, List.set_cons_zero, List.set_cons_succ]
                refine Lex3.run_free (v := ?_) (by rfl) (by rfl) (fun u => ?_) ?_; rotate_left; (go_simp; try with_reducible rfl); simp only [Act.put, List.setIfInBounds_toArray, List.set_cons_zero, List.set_cons_succ]
                refine Lex3.run_free (v := ?_) (by rfl) (by rfl) (fun u => ?_) ?_; rotate_left; (go_simp; try with_reducible rfl); simp only [Act.put, List.setIfInBounds_toArray, List.set_cons_zero, List.set_cons_succ]
                refine Lex3.run_free (v := ?_) (by rfl) (by rfl) (fun u => ?_) ?_; rotate_left; (go_simp; try with_reducible rfl); simp only [Act.put, List.setIfInBounds_toArray, List.set_cons_zero, List.set_cons_succ]
                refine Lex3.run_free (v := ?_) (by rfl) (by rfl) (fun u => ?_) ?_; rotate_left; (go_simp; try with_reducible rfl); simp only [Act.put, List.setIfInBounds_toArray, List.set_cons_zero, List.set_cons_succ]
                refine Lex3.run_free (v := ?_) (by rfl) (by rfl) (fun u => ?_) ?_; rotate_left; (go_simp; try with_reducible rfl); simp only [Act.put, List.setIfInBounds_toArray, List.set_cons_zero, List.set_cons_succ]
                refine Lex3.run_free (v := ?_) (by rfl) (by rfl) (fun u => ?_) ?_; rotate_left; (go_simp; try with_reducible rfl); simp only [Act.put, List.setIfInBounds_toArray, List.set_cons_zero, List.set_cons_succ]
                refine Lex3.run_free (v := ?_) (by rfl) (by rfl) (fun u => ?_) ?_; rotate_left; (go_simp; try with_reducible rfl); simp only [Act.put, List.setIfInBounds_toArray, List.set_cons_zero, List.set_cons_succ]
                refine Lex3.run_free (v := ?_) (by rfl) (by rfl) (fun u => ?_) ?_; rotate_left; (go_simp; try with_reducible rfl); simp only [Act.put, List.setIfInBounds_toArray, List.set_cons_zero, List.set_cons_succ]
                refine Lex3.run_load (v := ?_) (by rfl) (by rfl) (fun u hu => ?_) ?_; rotate_left; (obtain ⟨hu0, hu1, hu2, hu3⟩ := hu; go_simp; try with_reducible rfl); simp only [Act.put, List.setIfInBounds_toArray, List.set_cons_zero, List.set_cons_succ]
                refine Lex3.run_free (v := ?_) (by rfl) (by rfl) (fun u => ?_) ?_; rotate_left; (go_simp; try with_reducible rfl); simp only [Act.put, List.setIfInBounds_toArray, List.set_cons_zero, List.set_cons_succ]
                refine Lex3.run_eff (by rfl) (by rfl) (fun n' K' hK => ?_)
                have fr' : (wr.drewN (1 + n')).frozen? ⟨g, m0 + i, none⟩ = false := fr
                have dz' : (wr.drewN (1 + n')).cell? ⟨g, m0 + i, none⟩ = some (.int .i64 oldv) := dz
                go_simp
                have hp5 : RA ((wr.drewN (1 + n')).setCell ⟨g, m0 + i, none⟩ (.int .i64 v)) b g W H c (mixL f W zs (m + 1)) := by
                  have h5 := (show RA (wr.drewN (1 + n')) b g W H c (mixL f W zs m) from hpr.drewN _).set (m0 + i) (.int .i64 v)
                  rw [← List.map_set, HM0M.out, HSET.out] at h5
                  rw [HM0M.out]
                  exact h5
                have hg5 : w1.grownBy ((wr.drewN (1 + n')).setCell ⟨g, m0 + i, none⟩ (.int .i64 v)) (some g) := grown_set (grown_drewN hgr _) _ _
                refine hK _ _ ⟨hp5.c0, by rw [hp5.c2, HN.out], ?_, ?_⟩ ?_
                · rw [(ho1.blk.grown hg5 (by simp; exact hbg)).cell]
                  rfl
                · have h6 : ((wr.drewN (1 + n')).setCell ⟨g, m0 + i, none⟩ (.int .i64 v)).heap[go]? = wr.heap[go]? := heap_setCell_other _ _ _ _ hgg
                  rw [← e3]
                  unfold World.cell?
                  rw [h6]
                clear hK K'
                try simp only [Act.put, List.setIfInBounds_toArray, List.set_cons_zero, List.set_cons_succ]
                refine Lex3.run_nil (fun n3 => ?_)
                go_wp2_with fail
                go_roundw
                case rel => exact ⟨i + 1, m + 1, by omega, by omega, by go_num, hp5.drewN n3, grown_drewN hg5 n3⟩
                case measure => simp [intOf]; omega
            · have x1 : ¬ 0 ≤ x := by omega
              have x2 : (i : Int) < (W' : Int) + x := by omega
              have wx := wX (by omega)
              by_cases hy0 : 0 ≤ y
              · have y1 : 0 ≤ y := by omega
                clear wX wY
                go_upto_region 8 with fail
                dsimp only [List.append]
                go_upto_region 9 with fail
                refine Lex3.wp_region_lex [] (fun u' => u'.cell? ⟨b, 0, none⟩ = some (.int .i64 W) ∧ u'.cell? ⟨b, 2, none⟩ = some (.slice (some ⟨g, 0, none⟩) N c) ∧ u'.cell? ⟨b', 0, none⟩ = some (.int .i64 W') ∧ u'.cell? ⟨go, m' + ii, none⟩ = some (.int .i64 v)) (fun u n h => h) ⟨d0, hpr2, e0, e3⟩ (by kernel_rfl) (by kernel_rfl) ?_
                refine Lex3.run_free (v := ?_) (by rfl) (by rfl) (fun u => ?_) ?_; rotate_left; (go_simp; try with_reducible rfl); simp only [Act.put, List.setIfInBounds_toArray, List.set_cons_zero, List.set_cons_succ]
                refine Lex3.run_free (v := ?_) (by rfl) (by rfl) (fun u => ?_) ?_; rotate_left; (go_simp; try with_reducible rfl); simp only [Act.put, List.setIfInBounds_toArray, List.set_cons_zero, List.set_cons_succ]
                refine Lex3.run_free (v := ?_) (by rfl) (by rfl) (fun u => ?_) ?_; rotate_left; (go_simp; try with_reducible rfl); simp only [Act.put, List.setIfInBounds_toArray, List.set_cons_zero, List.set_cons_succ]
                refine Lex3.run_load (v := ?_) (by rfl) (by rfl) (fun u hu => ?_) ?_; rotate_left; (obtain ⟨hu0, hu1, hu2, hu3⟩ := hu; go_simp; try with_reducible rfl); simp only [Act.put, List.setIfInBounds_toArray, List.set_cons_zero, List.set_cons_succ]
                refine Lex3.run_free (v := ?_) (by rfl) (by rfl) (fun u => ?_) ?_; rotate_left; (go_simp; try with_reducible rfl); simp only [Act.put, List.setIfInBounds_toArray, List.set_cons_zero, List.set_cons_succ]
                refine Lex3.run_free (v := ?_) (by rfl) (by rfl) (fun u => ?_) ?_; rotate_left; (go_simp; try with_reducible rfl); simp only [Act.put, List.setIfInBounds_toArray, List.set_cons_zero, List.set_cons_succ]
                refine Lex3.run_free (v := ?_) (by rfl) (by rfl) (fun u => ?_) ?_; rotate_left; (go_simp; try with_reducible rfl); simp only [Act.put, List.setIfInBounds_toArray, List.set_cons_zero, List.set_cons_succ]
                refine Lex3.run_load (v := ?_) (by rfl) (by rfl) (fun u hu => ?_) ?_; rotate_left; (obtain ⟨hu0, hu1, hu2, hu3⟩ := hu; go_simp; try with_reducible rfl); simp only [Act.put, List.setIfInBounds_toArray, List.set_cons_zero, List.set_cons_succ]
                refine Lex3.run_free (v := ?_) (by rfl) (by rfl) (fun u => ?_) ?_; rotate_left; (go_simp; try with_reducible rfl); simp only [Act.put, List.setIfInBounds_toArray, List.set_cons_zero, List.set_cons_succ]
                refine Lex3.run_free (v := ?_) (by rfl) (by rfl) (fun u => ?_) ?_; rotate_left; (go_simp; try with_reducible rfl); simp only [Act.put, List.setIfInBounds_toArray, List.set_cons_zero, List.set_cons_succ]
                refine Lex3.run_free (v := ?_) (by rfl) (by rfl) (fun u => ?_) ?_; rotate_left; (go_simp; try with_reducible rfl); simp only [Act.put, List.setIfInBounds_toArray, List.set_cons_zero, List.set_cons_succ]
                refine Lex3.run_free (v := ?_) (by rfl) (by rfl) (fun u => ?_) ?_; rotate_left; (go_simp; try with_reducible rfl); simp only [Act.put, List.setIfInBounds_toArray, List.set_cons_zero, List.set_cons_succ]
                refine Lex3.run_free (v := ?_) (by rfl) (by rfl) (fun u => ?_) ?_; rotate_left; (go_simp; try with_reducible rfl); simp only [Act.put, List.setIfInBounds_toArray, List.set_cons_zero, List.set_cons_succ]
                refine Lex3.run_free (v := ?_) (by rfl) (by rfl) (fun u => ?_) ?_; rotate_left; (go_simp; try with_reducible rfl); simp only [Act.put, List.setIfInBounds_toArray, List.set_cons_zero, List.set_cons_succ]
                refine Lex3.run_free (v := ?_) (by rfl) (by rfl) (fun u => ?_) ?_; rotate_left; (go_simp; try with_reducible rfl); simp only [Act.put, List.setIfInBounds_toArray, List.set_cons_zero, List.set_cons_succ]
                refine Lex3.run_free (v := ?_) (by rfl) (by rfl) (fun u => ?_) ?_; rotate_left; (go_simp; try with_reducible rfl); simp only [Act.put, List.setIfInBounds_toArray, List.set_cons_zero, List.set_cons_succ]
                refine Lex3.run_load (v := ?_) (by rfl) (by rfl) (fun u hu => ?_) ?_; rotate_left; (obtain ⟨hu0, hu1, hu2, hu3⟩ := hu; go_simp; try with_reducible rfl); simp only [Act.put, List.setIfInBounds_toArray, List.set_cons_zero, List.set_cons_succ]
                refine Lex3.run_free (v := ?_) (by rfl) (by rfl) (fun u => ?_) ?_; rotate_left; (go_simp; try with_reducible rfl); simp only [Act.put, List.setIfInBounds_toArray, List.set_cons_zero, List.set_cons_succ]
                refine Lex3.run_free (v := ?_) (by rfl) (by rfl) (fun u => ?_) ?_; rotate_left; (go_simp; try with_reducible rfl); simp only [Act.put, List.setIfInBounds_toArray, List.set_cons_zero, List.set_cons_succ]
                refine Lex3.run_free (v := ?_) (by rfl) (by rfl) (fun u => ?_) ?_; rotate_left; (go_simp; try with_reducible rfl); simp only [Act.put, List.setIfInBounds_toArray, List.set_cons_zero, List.set_cons_succ]
                refine Lex3.run_free (v := ?_) (by rfl) (by rfl) (fun u => ?_) ?_; rotate_left; (go_simp; try with_reducible rfl); simp only [Act.put, List.setIfInBounds_toArray, List.set_cons_zero, List.set_cons_succ]
                refine Lex3.run_free (v := ?_) (by rfl) (by rfl) (fun u => ?_) ?_; rotate_left; (go_simp; try with_reducible rfl); simp only [Act.put, List.setIfInBounds_toArray, List.set_cons_zero, List.set_cons_succ]
                refine Lex3.run_free (v := ?_) (by rfl) (by rfl) (fun u => ?_) ?_; rotate_left; (go_simp; try with_reducible rfl); simp only [Act.put, List.setIfInBounds_toArray, List.set_cons_zero, List.set_cons_succ]
                refine Lex3.run_free (v := ?_) (by rfl) (by rfl) (fun u => ?_) ?_; rotate_left; (go_simp; try with_reducible rfl); simp only [Act.put, List.setIfInBounds_toArray, List.set_cons_zero, List.set_cons_succ]
                refine Lex3.run_free (v := ?_) (by rfl) (by rfl) (fun u => ?_) ?_; rotate_left; (go_simp; try with_reducible rfl); simp only [Act.put, List.setIfInBounds_toArray, List.set_cons_zero, List.set_cons_succ]
                refine Lex3.run_free (v := ?_) (by rfl) (by rfl) (fun u => ?_) ?_; rotate_left; (go_simp; try with_reducible rfl); simp only [Act.put, List.setIfInBounds_toArray, List.set_cons_zero, List.set_cons_succ]
                refine Lex3.run_load (v := ?_) (by rfl) (by rfl) (fun u hu => ?_) ?_; rotate_left; (obtain ⟨hu0, hu1, hu2, hu3⟩ := hu; go_simp; try with_reducible rfl); simp only [Act.put, List.setIfInBounds_toArray, List.set_cons_zero, List.set_cons_succ]
                refine Lex3.run_free (v := ?_) (by rfl) (by rfl) (fun u => ?_) ?_; rotate_left; (go_simp; try with_reducible rfl); simp only [Act.put, List.setIfInBounds_toArray, List.set_cons_zero, List.set_cons_succ]
                refine Lex3.run_eff (by rfl) (by rfl) (fun n' K' hK => ?_)
                have fr' : (wr.drewN (1 + n')).frozen? ⟨g, m0 + i, none⟩ = false := fr
                have dz' : (wr.drewN (1 + n')).cell? ⟨g, m0 + i, none⟩ = some (.int .i64 oldv) := dz
                go_simp
                have hp5 : RA ((wr.drewN (1 + n')).setCell ⟨g, m0 + i, none⟩ (.int .i64 v)) b g W H c (mixL f W zs (m + 1)) := by
                  have h5 := (show RA (wr.drewN (1 + n')) b g W H c (mixL f W zs m) from hpr.drewN _).set (m0 + i) (.int .i64 v)
                  rw [← List.map_set, HM0M.out, HSET.out] at h5
                  rw [HM0M.out]
                  exact h5
                have hg5 : w1.grownBy ((wr.drewN (1 + n')).setCell ⟨g, m0 + i, none⟩ (.int .i64 v)) (some g) := grown_set (grown_drewN hgr _) _ _
                refine hK _ _ ⟨hp5.c0, by rw [hp5.c2, HN.out], ?_, ?_⟩ ?_
                · rw [(ho1.blk.grown hg5 (by simp; exact hbg)).cell]
                  rfl
                · have h6 : ((wr.drewN (1 + n')).setCell ⟨g, m0 + i, none⟩ (.int .i64 v)).heap[go]? = wr.heap[go]? := heap_setCell_other _ _ _ _ hgg
                  rw [← e3]
                  unfold World.cell?
                  rw [h6]
                clear hK K'
                try simp only [Act.put, List.setIfInBounds_toArray, List.set_cons_zero, List.set_cons_succ]
                refine Lex3.run_nil (fun n3 => ?_)
                go_wp2_with fail
                go_roundw
                case rel => exact ⟨i + 1, m + 1, by omega, by omega, by go_num, hp5.drewN n3, grown_drewN hg5 n3⟩
                case measure => simp [intOf]; omega
              · have y1 : ¬ 0 ≤ y := by omega
                have y2 : (j : Int) < (H' : Int) + y := by omega
                have wy := wY (by omega)
                clear wX wY
                go_upto_region 8 with fail
                dsimp only [List.append]
                go_upto_region 9 with fail
                refine Lex3.wp_region_lex [] (fun u' => u'.cell? ⟨b, 0, none⟩ = some (.int .i64 W) ∧ u'.cell? ⟨b, 2, none⟩ = some (.slice (some ⟨g, 0, none⟩) N c) ∧ u'.cell? ⟨b', 0, none⟩ = some (.int .i64 W') ∧ u'.cell? ⟨go, m' + ii, none⟩ = some (.int .i64 v)) (fun u n h => h) ⟨d0, hpr2, e0, e3⟩ (by kernel_rfl) (by kernel_rfl) ?_
                refine Lex3.run_free (v := ?_) (by rfl) (by rfl) (fun u => ?_) ?_; rotate_left; (go_simp; try with_reducible rfl); simp only [Act.put, List.setIfInBounds_toArray, List.set_cons_zero, List.set_cons_succ]
                refine Lex3.run_free (v := ?_) (by rfl) (by rfl) (fun u => ?_) ?_; rotate_left; (go_simp; try with_reducible rfl); simp only [Act.put, List.setIfInBounds_toArray, List.set_cons_zero, List.set_cons_succ]
                refine Lex3.run_free (v := ?_) (by rfl) (by rfl) (fun u => ?_) ?_; rotate_left; (go_simp; try with_reducible rfl); simp only [Act.put, List.setIfInBounds_toArray, List.set_cons_zero, List.set_cons_succ]
                refine Lex3.run_load (v := ?_) (by rfl) (by rfl) (fun u hu => ?_) ?_; rotate_left; (obtain ⟨hu0, hu1, hu2, hu3⟩ := hu; go_simp; try with_reducible rfl); simp only [Act.put, List.setIfInBounds_toArray, List.set_cons_zero, List.set_cons_succ]
                refine Lex3.run_free (v := ?_) (by rfl) (by rfl) (fun u => ?_) ?_; rotate_left; (go_simp; try with_reducible rfl); simp only [Act.put, List.setIfInBounds_toArray, List.set_cons_zero, List.set_cons_succ]
                refine Lex3.run_free (v := ?_) (by rfl) (by rfl) (fun u => ?_) ?_; rotate_left; (go_simp; try with_reducible rfl); simp only [Act.put, List.setIfInBounds_toArray, List.set_cons_zero, List.set_cons_succ]
                refine Lex3.run_free (v := ?_) (by rfl) (by rfl) (fun u => ?_) ?_; rotate_left; (go_simp; try with_reducible rfl); simp only [Act.put, List.setIfInBounds_toArray, List.set_cons_zero, List.set_cons_succ]
                refine Lex3.run_load (v := ?_) (by rfl) (by rfl) (fun u hu => ?_) ?_; rotate_left; (obtain ⟨hu0, hu1, hu2, hu3⟩ := hu; go_simp; try with_reducible rfl); simp only [Act.put, List.setIfInBounds_toArray, List.set_cons_zero, List.set_cons_succ]
                refine Lex3.run_free (v := ?_) (by rfl) (by rfl) (fun u => ?_) ?_; rotate_left; (go_simp; try with_reducible rfl); simp only [Act.put, List.setIfInBounds_toArray, List.set_cons_zero, List.set_cons_succ]
                refine Lex3.run_free (v := ?_) (by rfl) (by rfl) (fun u => ?_) ?_; rotate_left; (go_simp; try with_reducible rfl); simp only [Act.put, List.setIfInBounds_toArray, List.set_cons_zero, List.set_cons_succ]
                refine Lex3.run_free (v := ?_) (by rfl) (by rfl) (fun u => ?_) ?_; rotate_left; (go_simp; try with_reducible rfl); simp only [Act.put, List.setIfInBounds_toArray, List.set_cons_zero, List.set_cons_succ]
                refine Lex3.run_free (v := ?_) (by rfl) (by rfl) (fun u => ?_) ?_; rotate_left; (go_simp; try with_reducible rfl); simp only [Act.put, List.setIfInBounds_toArray, List.set_cons_zero, List.set_cons_succ]
                refine Lex3.run_free (v := ?_) (by rfl) (by rfl) (fun u => ?_) ?_; rotate_left; (go_simp; try with_reducible rfl); simp only [Act.put, List.setIfInBounds_toArray, List.set_cons_zero, List.set_cons_succ]
                refine Lex3.run_free (v := ?_) (by rfl) (by rfl) (fun u => ?_) ?_; rotate_left; (go_simp; try with_reducible rfl); simp only [Act.put, List.setIfInBounds_toArray, List.set_cons_zero, List.set_cons_succ]
                refine Lex3.run_free (v := ?_) (by rfl) (by rfl) (fun u => ?_) ?_; rotate_left; (go_simp; try with_reducible rfl); simp only [Act.put, List.setIfInBounds_toArray, List.set_cons_zero, List.set_cons_succ]
                refine Lex3.run_free (v := ?_) (by rfl) (by rfl) (fun u => ?_) ?_; rotate_left; (go_simp; try with_reducible rfl); simp only [Act.put, List.setIfInBounds_toArray, List.set_cons_zero, List.set_cons_succ]
                refine Lex3.run_load (v := ?_) (by rfl) (by rfl) (fun u hu => ?_) ?_; rotate_left; (obtain ⟨hu0, hu1, hu2, hu3⟩ := hu; go_simp; try with_reducible rfl); simp only [Act.put, List.setIfInBounds_toArray, List.set_cons_zero, List.set_cons_succ]
                refine Lex3.run_free (v := ?_) (by rfl) (by rfl) (fun u => ?_) ?_; rotate_left; (go_simp; try with_reducible rfl); simp only [Act.put, List.setIfInBounds_toArray, List.set_cons_zero, List.set_cons_succ]
                refine Lex3.run_free (v := ?_) (by rfl) (by rfl) (fun u => ?_) ?_; rotate_left; (go_simp; try with_reducible rfl); simp only [Act.put, List.setIfInBounds_toArray, List.set_cons_zero, List.set_cons_succ]
                refine Lex3.run_free (v := ?_) (by rfl) (by rfl) (fun u => ?_) ?_; rotate_left; (go_simp; try with_reducible rfl); simp only [Act.put, List.setIfInBounds_toArray, List.set_cons_zero, List.set_cons_succ]
                refine Lex3.run_free (v := ?_) (by rfl) (by rfl) (fun u => ?_) ?_; rotate_left; (go_simp; try with_reducible rfl); simp only [Act.put, List.setIfInBounds_toArray, List.set_cons_zero, List.set_cons_succ]
                refine Lex3.run_free (v := ?_) (by rfl) (by rfl) (fun u => ?_) ?_; rotate_left; (go_simp; try with_reducible rfl); simp only [Act.put, List.setIfInBounds_toArray, List.set_cons_zero, List.set_cons_succ]
                refine Lex3.run_free (v := ?_) (by rfl) (by rfl) (fun u => ?_) ?_; rotate_left; (go_simp; try with_reducible rfl); simp only [Act.put, List.setIfInBounds_toArray, List.set_cons_zero, List.set_cons_succ]
                refine Lex3.run_free (v := ?_) (by rfl) (by rfl) (fun u => ?_) ?_; rotate_left; (go_simp; try with_reducible rfl); simp only [Act.put, List.setIfInBounds_toArray, List.set_cons_zero, List.set_cons_succ]
                refine Lex3.run_free (v := ?_) (by rfl) (by rfl) (fun u => ?_) ?_; rotate_left; (go_simp; try with_reducible rfl); simp only [Act.put, List.setIfInBounds_toArray, List.set_cons_zero, List.set_cons_succ]
                refine Lex3.run_free (v := ?_) (by rfl) (by rfl) (fun u => ?_) ?_; rotate_left; (go_simp; try with_reducible rfl); simp only [Act.put, List.setIfInBounds_toArray, List.set_cons_zero, List.set_cons_succ]
                refine Lex3.run_load (v := ?_) (by rfl) (by rfl) (fun u hu => ?_) ?_; rotate_left; (obtain ⟨hu0, hu1, hu2, hu3⟩ := hu; go_simp; try with_reducible rfl); simp only [Act.put, List.setIfInBounds_toArray, List.set_cons_zero, List.set_cons_succ]
                refine Lex3.run_free (v := ?_) (by rfl) (by rfl) (fun u => ?_) ?_; rotate_left; (go_simp; try with_reducible rfl); simp only [Act.put, List.setIfInBounds_toArray, List.set_cons_zero, List.set_cons_succ]
                refine Lex3.run_eff (by rfl) (by rfl) (fun n' K' hK => ?_)
                have fr' : (wr.drewN (1 + n')).frozen? ⟨g, m0 + i, none⟩ = false := fr
                have dz' : (wr.drewN (1 + n')).cell? ⟨g, m0 + i, none⟩ = some (.int .i64 oldv) := dz
                go_simp
                have hp5 : RA ((wr.drewN (1 + n')).setCell ⟨g, m0 + i, none⟩ (.int .i64 v)) b g W H c (mixL f W zs (m + 1)) := by
                  have h5 := (show RA (wr.drewN (1 + n')) b g W H c (mixL f W zs m) from hpr.drewN _).set (m0 + i) (.int .i64 v)
                  rw [← List.map_set, HM0M.out, HSET.out] at h5
                  rw [HM0M.out]
                  exact h5
                have hg5 : w1.grownBy ((wr.drewN (1 + n')).setCell ⟨g, m0 + i, none⟩ (.int .i64 v)) (some g) := grown_set (grown_drewN hgr _) _ _
                refine hK _ _ ⟨hp5.c0, by rw [hp5.c2, HN.out], ?_, ?_⟩ ?_
                · rw [(ho1.blk.grown hg5 (by simp; exact hbg)).cell]
                  rfl
                · have h6 : ((wr.drewN (1 + n')).setCell ⟨g, m0 + i, none⟩ (.int .i64 v)).heap[go]? = wr.heap[go]? := heap_setCell_other _ _ _ _ hgg
                  rw [← e3]
                  unfold World.cell?
                  rw [h6]
                clear hK K'
                try simp only [Act.put, List.setIfInBounds_toArray, List.set_cons_zero, List.set_cons_succ]
                refine Lex3.run_nil (fun n3 => ?_)
                go_wp2_with fail
                go_roundw
                case rel => exact ⟨i + 1, m + 1, by omega, by omega, by go_num, hp5.drewN n3, grown_drewN hg5 n3⟩
                case measure => simp [intOf]; omega
          · have hkeep := mix_keep (f := f) hil HJI.out hml (by rw [← HF.out]; unfold layF; rw [if_neg hC, HJI.out])
            rw [hkeep] at hpr
            clear hkeep d0
            have d0 := hpr.c0
            by_cases k1 : (i : Int) < x
            · have q1 : ¬ x ≤ i := by omega
              go_upto_region 8 with fail
              dsimp only [List.append]
              go_wp2_with fail
              go_roundw
              case rel => exact ⟨i + 1, m + 1, by omega, by omega, by go_num, hpr, hgr⟩
              case measure => simp [intOf]; omega
            have p1 : x ≤ i := by omega
            by_cases k2 : (j : Int) < y
            · have q2 : ¬ y ≤ j := by omega
              go_upto_region 8 with fail
              dsimp only [List.append]
              go_wp2_with fail
              go_roundw
              case rel => exact ⟨i + 1, m + 1, by omega, by omega, by go_num, hpr, hgr⟩
              case measure => simp [intOf]; omega
            have p2 : y ≤ j := by omega
            have wX : x < 0 → IntKind.i64.wrap ((W' : Int) + x) = (W' : Int) + x := fun h => IntWalk.i64_in _ (by omega)
            have wY : y < 0 → IntKind.i64.wrap ((H' : Int) + y) = (H' : Int) + y := fun h => IntWalk.i64_in _ (by omega)
            by_cases k3 : x < 0 ∧ (W' : Int) + x ≤ i
            · have q3 : ¬ 0 ≤ x := by omega
              have q4 : ¬ (i : Int) < (W' : Int) + x := by omega
              have wx := wX k3.1
              clear wX wY
              go_upto_region 8 with fail
              dsimp only [List.append]
              go_wp2_with fail
              go_roundw
              case rel => exact ⟨i + 1, m + 1, by omega, by omega, by go_num, hpr, hgr⟩
              case measure => simp [intOf]; omega
            by_cases k4 : y < 0 ∧ (H' : Int) + y ≤ j
            · by_cases hx0 : 0 ≤ x
              · have x1 : 0 ≤ x := by omega
                have q5 : ¬ 0 ≤ y := by omega
                have q6 : ¬ (j : Int) < (H' : Int) + y := by omega
                have wy := wY k4.1
                clear wX wY
                go_upto_region 8 with fail
                dsimp only [List.append]
                go_wp2_with fail
                go_roundw
                case rel => exact ⟨i + 1, m + 1, by omega, by omega, by go_num, hpr, hgr⟩
                case measure => simp [intOf]; omega
              · have x1 : ¬ 0 ≤ x := by omega
                have x2 : (i : Int) < (W' : Int) + x := by omega
                have wx := wX (by omega)
                have q5 : ¬ 0 ≤ y := by omega
                have q6 : ¬ (j : Int) < (H' : Int) + y := by omega
                have wy := wY k4.1
                clear wX wY
                go_upto_region 8 with fail
                dsimp only [List.append]
                go_wp2_with fail
                go_roundw
                case rel => exact ⟨i + 1, m + 1, by omega, by omega, by go_num, hpr, hgr⟩
                case measure => simp [intOf]; omega
            by_cases k5 : x + W' ≤ i
            · have hx0 : 0 ≤ x := by omega
              by_cases hy0 : 0 ≤ y
              · have x1 : 0 ≤ x := by omega
                have y1 : 0 ≤ y := by omega
                have wi : IntKind.i64.wrap ((i : Int) - x) = (i : Int) - x := IntWalk.i64_in _ (by omega)
                have q7 : ¬ (i : Int) - x < (W' : Int) := by omega
                clear wX wY
                go_upto_region 8 with fail
                dsimp only [List.append]
                go_wp2_with fail
                go_roundw
                case rel => exact ⟨i + 1, m + 1, by omega, by omega, by go_num, hpr, hgr⟩
                case measure => simp [intOf]; omega
              · have x1 : 0 ≤ x := by omega
                have y1 : ¬ 0 ≤ y := by omega
                have y2 : (j : Int) < (H' : Int) + y := by omega
                have wy := wY (by omega)
                have wi : IntKind.i64.wrap ((i : Int) - x) = (i : Int) - x := IntWalk.i64_in _ (by omega)
                have q7 : ¬ (i : Int) - x < (W' : Int) := by omega
                clear wX wY
                go_upto_region 8 with fail
                dsimp only [List.append]
                go_wp2_with fail
                go_roundw
                case rel => exact ⟨i + 1, m + 1, by omega, by omega, by go_num, hpr, hgr⟩
                case measure => simp [intOf]; omega
            have k6 : y + H' ≤ j := by omega
            have hy0 : 0 ≤ y := by omega
            by_cases hx0 : 0 ≤ x
            · have x1 : 0 ≤ x := by omega
              have y1 : 0 ≤ y := by omega
              have wi : IntKind.i64.wrap ((i : Int) - x) = (i : Int) - x := IntWalk.i64_in _ (by omega)
              have wj : IntKind.i64.wrap ((j : Int) - y) = (j : Int) - y := IntWalk.i64_in _ (by omega)
              have q8 : (i : Int) - x < (W' : Int) := by omega
              have q9 : ¬ (j : Int) - y < (H' : Int) := by omega
              clear wX wY
              go_upto_region 8 with fail
              dsimp only [List.append]
              go_wp2_with fail
              go_roundw
              case rel => exact ⟨i + 1, m + 1, by omega, by omega, by go_num, hpr, hgr⟩
              case measure => simp [intOf]; omega
            · have x1 : ¬ 0 ≤ x := by omega
              have x2 : (i : Int) < (W' : Int) + x := by omega
              have wx := wX (by omega)
              have y1 : 0 ≤ y := by omega
              have wi : IntKind.i64.wrap ((i : Int) - x) = (i : Int) - x := IntWalk.i64_in _ (by omega)
              have wj : IntKind.i64.wrap ((j : Int) - y) = (j : Int) - y := IntWalk.i64_in _ (by omega)
              have q8 : (i : Int) - x < (W' : Int) := by omega
              have q9 : ¬ (j : Int) - y < (H' : Int) := by omega
              clear wX wY
              go_upto_region 8 with fail
              dsimp only [List.append]
              go_wp2_with fail
              go_roundw
              case rel => exact ⟨i + 1, m + 1, by omega, by omega, by go_num, hpr, hgr⟩
              case measure => simp [intOf]; omega
        · go_wp2_with fail
          go_roundw
          case rel => exact ⟨j + 1, m, by omega, by rw [Nat.add_mul, Nat.one_mul, HNN.out]; omega, by go_num, hpr, hgr⟩
          case measure => simp [intOf]; omega
    · have hjh : j = H := by omega
      clear hj hlt
      subst hjh
      have hend : mixL f W zs n = gridL W f (j * W) := by
        unfold mixL
        rw [← HNN.out, List.drop_of_length_le (by rw [HL.out, Nat.mul_comm]; exact Nat.le_refl _), List.append_nil]
      rw [hend] at hpr
      go_wp2_with fail
      refine bodyPost_ret (results_none rfl _ _ _) rfl ?_
      exact ⟨rfl, by rw [HF.out]; exact hpr, grown_then g0 hgr⟩
end Go.Proofs.Ytlbocfinjlkebaa.R12
