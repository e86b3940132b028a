/- PlaneFloats: floats of 32 bits, no numbers, noughts with signs: the walk. -/
import Derived.Test.YtlbocfinjlkebaaFloR
import Derived.Test.YtlbocfinjlkebaaLex3
import Derived.Test.YtlbocfinjlkebaaPlanePFc
import Derived.Test.YtlbocfinjlkebaaAwake
import Derived.OwnWalk
namespace Go.Proofs.Ytlbocfinjlkebaa.Flts
open Go.RowKit

theorem nought {a : Nat} (h : Flo.isNan a = false) (h0 : Ieee.single.order a 0 = some .eq) : ∃ r, Ieee.single.div 1065353216 a = some r ∧ Ieee.single.order r r = some .eq := by
  have hz : Flo.isNan 0 = false := by decide +kernel
  have k0 : Flo.K 0 = 0 := by decide +kernel
  rw [Flo.order_rank h hz, Flo.compare_int, k0] at h0
  have hk : Flo.K a = 0 := by
    by_cases c1 : Flo.K a < 0
    · rw [if_pos c1] at h0; simp at h0
    · rw [if_neg c1] at h0
      by_cases c2 : Flo.K a = 0
      · exact c2
      · rw [if_neg c2] at h0; simp at h0
  have hone : Ieee.single.read 1065353216 = .number false 8388608 (-23) := by decide +kernel
  cases h1 : Ieee.single.read a with
  | nan s f => unfold Flo.isNan at h; rw [h1] at h; simp [Ieee.Datum.isNaN] at h
  | infinity s =>
    have : Flo.K a = Flo.sg s (Flo.P 400) := by unfold Flo.K; rw [h1]
    have hp := Flo.P_pos 400
    rw [this] at hk
    cases s <;> simp [Flo.sg] at hk <;> omega
  | number s m e =>
    have : Flo.K a = Flo.sg s (m * Flo.P e) := by unfold Flo.K; rw [h1]
    have hp := Flo.P_pos e
    rw [this] at hk
    have hm : m = 0 := by
      have h2 : m * Flo.P e = 0 := by
        have := Flo.sg_abs s (m * Flo.P e)
        rw [hk] at this
        simpa using this.symm
      rcases Nat.mul_eq_zero.1 h2 with h3 | h3
      · exact h3
      · omega
    subst hm
    refine ⟨Ieee.single.write (.infinity s), ?_, ?_⟩
    · unfold Ieee.Format.div
      rw [h1, hone]
      show ((Ieee.Datum.quotient _ (.number false 8388608 (-23)) (.number s 0 e)).map _) = _
      unfold Ieee.Datum.quotient
      simp
    · cases s <;> decide +kernel

set_option maxHeartbeats 2000000 in
theorem alike_any (a : Nat) (w : World) : Calls Try.prog 47 #[.float .f32 a, .float .f32 a] w fun e w' => e = .returned (.bool true) ∧ ∃ k, w' = w.drewN k := by
  have he := Flo.eqE_self a
  unfold PF.eqE at he
  cases hn : Flo.isNan a with
  | true =>
    rw [hn] at he
    have h1 : (FloatKind.f32.format.order a a == some .eq) = false := he
    have h2 : (FloatKind.f32.format.order a a != some .eq) = true := by simp [bne, h1]
    clear he
    go_enter Try.func47, Try.ntmps47
    go_wp2_with fail
    go_ret
    exact ⟨rfl, 0, rfl⟩
  | false =>
    rw [hn] at he
    have h1 : (FloatKind.f32.format.order a a == some .eq) = true := he
    clear he
    by_cases hz : FloatKind.f32.format.order a 0 = some .eq
    · obtain ⟨r, h3, h4⟩ := nought hn hz
      have hq : ∀ u : World, (binOp .quo 73 (.float .f32 1065353216) (.float .f32 a)).run Try.prog u = .ok (.float .f32 r) u := fun u => run_float_arith u .quo _ _ _ _ _ (show floatBits .quo .f32 1065353216 a = some r from h3)
      have h5 : (FloatKind.f32.format.order r r == some .eq) = true := by
        have : FloatKind.f32.format.order r r = some .eq := h4
        rw [this]
        rfl
      have h6 : (FloatKind.f32.format.order a 0 != some .eq) = false := by rw [hz]; rfl
      clear h3 h4 hz
      go_enter Try.func47, Try.ntmps47
      go_wp2_with fail
      go_ret
      exact ⟨rfl, 0, rfl⟩
    · have h6 : (FloatKind.f32.format.order a 0 != some .eq) = true := by simpa [bne] using hz
      clear hz
      go_enter Try.func47, Try.ntmps47
      go_wp2_with fail
      go_ret
      exact ⟨rfl, 0, rfl⟩

set_option maxRecDepth 100000 in
theorem floats_no (A : Option Addr) (n c : Nat) (w : World) (hn : n = 0 ∨ 1000 < n) (hm : n ≤ maxLen) :
    Calls Try.prog 9 #[.slice A n c] w (TrueB w) := by
  unfold maxLen at hm
  rcases hn with rfl | h
  · go_enter Try.func9, Try.ntmps9
    go_wp2_with fail
    refine (awake_any _).mono ?_
    rintro e w1 ⟨rfl, b1⟩
    go_wp2_with fail
    go_ret
    exact ⟨rfl, b1⟩
  · have h1 : ¬ n = 0 := by omega
    have h2 : ((n : Int) == 0) = false := by simp; omega
    have h3 : (1000 : Int) < n := by omega
    go_enter Try.func9, Try.ntmps9
    go_wp2_with fail
    refine (awake_any _).mono ?_
    rintro e w1 ⟨rfl, b1⟩
    go_wp2_with fail
    go_ret
    exact ⟨rfl, b1⟩

theorem sl_grown {w w' : World} {b o n : Nat} {xs : List Value} {row : Option Nat} (h : Sl w (some ⟨b, o, none⟩) n xs) (hg : w.grownBy w' row) (h2 : some b ≠ row) : Sl w' (some ⟨b, o, none⟩) n xs := by
  refine ⟨h.1, fun h0 => ⟨b, o, rfl, fun j hj => ?_⟩⟩
  obtain ⟨b', o', e, hd⟩ := h.2 h0
  injection e with e
  injection e with e1 e2
  subst e1 e2
  have h3 := hd j hj
  have h4 : j < xs.length := by rw [h.1]; exact hj
  rw [List.getElem?_eq_getElem h4] at h3
  have h5 := World.block_lt_of_cell? w _ h3
  have e : w'.cell? ⟨b, o + j, none⟩ = w.cell? ⟨b, o + j, none⟩ := by
    have := hg.block b h5 h2
    unfold World.cell?
    rw [this]
  rw [e, h3, List.getElem?_eq_getElem h4]
theorem sl_flt {w : World} {b o n : Nat} {l : List Nat} (h : Sl w (some ⟨b, o, none⟩) n (l.map (.float .f32))) {k : Nat} (hk : k < n) : w.cell? ⟨b, o + k, none⟩ = some (.float .f32 (l.getD k 0)) := by
  obtain ⟨b', o', e, hd⟩ := h.2 (by omega)
  injection e with e
  injection e with e1 e2
  subst e1 e2
  have h1 := hd k hk
  have h2 : k < l.length := by have := h.1; simp at this; omega
  rw [List.getElem?_map, List.getElem?_eq_getElem h2] at h1
  rw [h1, List.getD_eq_getElem?_getD, List.getElem?_eq_getElem h2]
  rfl
/-- so many samples set, the others noughts -/
def filled (zs : List Nat) (k : Nat) : List Nat := zs.take k ++ List.replicate (zs.length - k) 0
theorem filled_next {zs : List Nat} {k : Nat} (h : k < zs.length) : (filled zs k).set k (zs.getD k 0) = filled zs (k + 1) := by
  unfold filled
  have e1 : (zs.take k).length = k := by rw [List.length_take]; omega
  rw [List.set_append_right _ _ (by omega), e1, Nat.sub_self, show zs.length - k = (zs.length - (k + 1)) + 1 by omega, List.replicate_succ, List.set_cons_zero, List.take_succ_eq_append_getElem h, List.append_assoc, List.getD_eq_getElem?_getD, List.getElem?_eq_getElem h]
  rfl
theorem filled_all (zs : List Nat) : filled zs zs.length = zs := by simp [filled]
theorem filled_none (zs : List Nat) : filled zs 0 = List.replicate zs.length 0 := by simp [filled]
theorem law_next {zs : List Nat} {k : Nat} (h : k < zs.length) : Flo.lawL (zs.take (k + 1)) = Flo.lawE (Flo.lawL (zs.take k)) (zs.getD k 0) := by
  rw [List.take_succ_eq_append_getElem h]
  unfold Flo.lawL
  rw [List.foldl_append, List.getD_eq_getElem?_getD, List.getElem?_eq_getElem h]
  rfl
theorem all_next {zs : List Nat} {k : Nat} (h : k < zs.length) : (zs.take (k + 1)).all (fun v => PF.eqE v v) = ((zs.take k).all (fun v => PF.eqE v v) && PF.eqE (zs.getD k 0) (zs.getD k 0)) := by
  rw [List.take_succ_eq_append_getElem h, List.all_append, List.getD_eq_getElem?_getD, List.getElem?_eq_getElem h]
  simp
theorem sameB_diff {W H : Nat} {zs : List Nat} (h : ¬ W = 1) : PF.sameB 1 W W H zs zs = false := by
  unfold PF.sameB
  have : ¬ (1 = W) := by omega
  simp [this]
theorem flts_one (l : List Nat) : ∀ u ∈ l.map (Value.float .f32), u.oneCell' = true := by
  intro u hu
  obtain ⟨n, _, rfl⟩ := List.mem_map.1 hu
  rfl
theorem law_count (zs : List Nat) : (Flo.lawL zs).1 ≤ zs.length := by
  have key : ∀ (l : List Nat) (s : Nat × Nat × Nat), (l.foldl Flo.lawE s).1 ≤ s.1 + l.length := by
    intro l
    induction l with
    | nil => intro s; simp
    | cons v l ih =>
      intro s
      have h1 := ih (Flo.lawE s v)
      have h2 : (Flo.lawE s v).1 ≤ s.1 + 1 := by
        unfold Flo.lawE
        split <;> simp
      simp only [List.foldl_cons, List.length_cons]
      omega
  have := key zs (0, 0, 0)
  simpa [Flo.lawL] using this
theorem rowsL_whole (zs : List Nat) {n : Nat} (h : zs.length = n) : PF.rowsL n 0 0 n (zs.map (.float .f32)) 1 = zs.map (.float .f32) := by
  unfold PF.rowsL PF.rowsL
  simp
  rw [List.take_of_length_le (by simp [h])]

set_option maxRecDepth 100000 in
set_option maxHeartbeats 16000000 in
theorem floats_yes (b0 o0 n c : Nat) (zs : List Nat) (w : World) (h1 : 1 ≤ n) (h2 : n ≤ 1000) (hsl : Sl w (some ⟨b0, o0, none⟩) n (zs.map (.float .f32))) :
    Calls Try.prog 9 #[.slice (some ⟨b0, o0, none⟩) n c] w (TrueB w) := by
  have hlen : zs.length = n := by have := hsl.1; simpa using this
  have fit1 : fitsB n ((1 : Nat) : Int) = true := by rw [fitsB_iff]; omega
  have fit2 : fitsB ((1 : Nat) : Int) n = true := by rw [fitsB_iff]; omega
  have hb0 := World.block_lt_of_cell? w _ (sl_flt hsl (k := 0) (by omega))
  simp only at hb0
  have HLEN := Lib.hid hlen; clear hlen
  have n0 : ¬ n = 0 := by omega
  have n1 : ((n : Int) == 0) = false := by simp; omega
  have n2 : ¬ (1000 : Int) < n := by omega
  go_enter Try.func9, Try.ntmps9
  go_wp2_with fail
  refine (awake_any _).mono ?_
  rintro e w1 ⟨rfl, b1⟩
  have hsl1 := hsl.below b1
  go_wp2_with fail
  refine (show Calls Try.prog 44 #[.int .i64 n, .int .i64 ((1 : Nat) : Int), .slice (some ⟨b0, o0, none⟩) n c] _ _ from (Nat.mul_one n) ▸ PF.of_yes n 1 b0 o0 c _ w1 fit1 (by rw [Nat.mul_one]; exact hsl1) (flts_one _)).mono ?_
  rintro e w2 ⟨p, g, cp, rfl, hp2, k1, k2, b2⟩
  have hsl2 := hsl1.below b2
  have a2 := below_then b1 b2
  have l1 := hp2.blt
  have l2 := hp2.glt
  go_wp2_with fail
  refine (PF.new_yes 1 n w2 fit2).mono ?_
  rintro e w3 ⟨rfl, hq3, b3⟩
  have hsl3 := hsl2.below b3
  have hp3 := hp2.below b3
  have a3 := below_then a2 b3
  have s2 := a2.size
  obtain ⟨pq, hpq⟩ : ∃ pq, w2.heap.size + 1 = pq := ⟨_, rfl⟩
  obtain ⟨gq, hgq⟩ : ∃ gq, w2.heap.size = gq := ⟨_, rfl⟩
  obtain ⟨cq, hcq⟩ : ∃ cq, 1 * n = cq := ⟨_, rfl⟩
  rw [hpq, hgq, hcq] at hq3
  rw [show List.replicate cq (Value.float .f32 0) = (filled zs 0).map (.float .f32) by rw [filled_none, List.map_replicate, HLEN.out, ← hcq, Nat.one_mul]] at hq3
  simp only [hpq]
  have f1 : b0 < gq := by omega
  have f2 : p < gq := by omega
  have f3 : g < gq := by omega
  have f4 : w.heap.size ≤ gq := by omega
  clear hpq hgq hcq
  go_wp2_with fail
  go_loopw [8, 9, 10, 11, 12] (fun wh cn l m i wr => ∃ k : Nat, k ≤ n ∧ wh = .bool ((zs.take k).all (fun v => PF.eqE v v)) ∧ cn = .int .i64 ((Flo.lawL (zs.take k)).1 : Nat) ∧ l = .float .f32 (Flo.lawL (zs.take k)).2.1 ∧ m = .float .f32 (Flo.lawL (zs.take k)).2.2 ∧ i = .int .i64 k ∧ PF.PA wr pq gq 1 n cq ((filled zs k).map (.float .f32)) ∧ w3.grownBy wr (some gq)) (fun _ _ _ _ i _ => n - (intOf i).toNat)
  case atStart => exact ⟨0, Nat.zero_le _, rfl, rfl, rfl, rfl, rfl, hq3, World.grownBy.refl _ _⟩
  case round =>
    obtain ⟨k, hk, rfl, rfl, rfl, rfl, rfl, hq, hgr⟩ := hrel
    by_cases hkl : k < n
    · have hslk := sl_grown hsl3 hgr (by simp; omega)
      have d1 := sl_flt hslk hkl
      have hz := filled_next (zs := zs) (k := k) (by rw [HLEN.out]; exact hkl)
      have hl := law_next (zs := zs) (k := k) (by rw [HLEN.out]; exact hkl)
      have ha := all_next (zs := zs) (k := k) (by rw [HLEN.out]; exact hkl)
      have hcn : (Flo.lawL (zs.take k)).1 ≤ k := by
        have := law_count (zs.take k)
        rw [List.length_take] at this
        omega
      obtain ⟨z, hzz⟩ : ∃ z, zs.getD k 0 = z := ⟨_, rfl⟩
      rw [hzz] at d1 hz hl ha
      clear hzz hslk
      obtain ⟨wh, hwh⟩ : ∃ wh, (zs.take k).all (fun v => PF.eqE v v) = wh := ⟨_, rfl⟩
      obtain ⟨st, hst⟩ : ∃ st, Flo.lawL (zs.take k) = st := ⟨_, rfl⟩
      rw [hwh] at ha ⊢
      rw [hst] at hl hcn ⊢
      clear hwh hst
      obtain ⟨cn, l, m⟩ := st
      simp only at hcn ⊢
      have HZ := Lib.hid hz; clear hz
      have HL := Lib.hid hl; clear hl
      have HA := Lib.hid ha; clear ha
      cases hnn : Flo.isNan z with
      | true =>
        have hee := Flo.eqE_self z
        rw [hnn] at hee
        have h1 : (FloatKind.f32.format.order z z == some .eq) = false := hee
        have HE := Lib.hid hee; clear hee
        cases wh with
        | true =>
          go_wp2_with fail
          refine (PF.set_in pq gq 1 n cq _ ((0 : Nat) : Int) (k : Int) z _ hq (by omega) (by omega) (by omega) (by omega)).mono ?_
          rintro e w9 ⟨rfl, hq9, hg9⟩
          have hq9' : PF.PA w9 pq gq 1 n cq ((filled zs (k + 1)).map (.float .f32)) := by
            have e1 : (((filled zs k).map (Value.float .f32)).set ((k : Int).toNat * 1 + ((0 : Nat) : Int).toNat) (.float .f32 z)) = (filled zs (k + 1)).map (.float .f32) := by
              rw [Int.toNat_natCast, Int.toNat_natCast, Nat.mul_one, Nat.add_zero, ← List.map_set, HZ.out]
            rw [e1] at hq9
            exact hq9
          have hg9' := grown_then hgr hg9
          clear hq9 hg9
          go_wp2_with fail
          go_roundw
          case rel => exact ⟨k + 1, by omega, by rw [HA.out, HE.out]; rfl, by rw [HL.out]; simp [Flo.lawE, HE.out], by rw [HL.out]; simp [Flo.lawE, HE.out], by rw [HL.out]; simp [Flo.lawE, HE.out], by go_num, hq9', hg9'⟩
          case measure => simp [intOf]; omega
        | false =>
          go_wp2_with fail
          refine (PF.set_in pq gq 1 n cq _ ((0 : Nat) : Int) (k : Int) z _ hq (by omega) (by omega) (by omega) (by omega)).mono ?_
          rintro e w9 ⟨rfl, hq9, hg9⟩
          have hq9' : PF.PA w9 pq gq 1 n cq ((filled zs (k + 1)).map (.float .f32)) := by
            have e1 : (((filled zs k).map (Value.float .f32)).set ((k : Int).toNat * 1 + ((0 : Nat) : Int).toNat) (.float .f32 z)) = (filled zs (k + 1)).map (.float .f32) := by
              rw [Int.toNat_natCast, Int.toNat_natCast, Nat.mul_one, Nat.add_zero, ← List.map_set, HZ.out]
            rw [e1] at hq9
            exact hq9
          have hg9' := grown_then hgr hg9
          clear hq9 hg9
          go_wp2_with fail
          go_roundw
          case rel => exact ⟨k + 1, by omega, by rw [HA.out, HE.out]; rfl, by rw [HL.out]; simp [Flo.lawE, HE.out], by rw [HL.out]; simp [Flo.lawE, HE.out], by rw [HL.out]; simp [Flo.lawE, HE.out], by go_num, hq9', hg9'⟩
          case measure => simp [intOf]; omega
      | false =>
        have hee := Flo.eqE_self z
        rw [hnn] at hee
        have h1 : (FloatKind.f32.format.order z z == some .eq) = true := hee
        have HE := Lib.hid hee; clear hee
        cases wh with
        | true =>
          go_wp2_with fail
          refine (PF.set_in pq gq 1 n cq _ ((0 : Nat) : Int) (k : Int) z _ hq (by omega) (by omega) (by omega) (by omega)).mono ?_
          rintro e w9 ⟨rfl, hq9, hg9⟩
          have hq9' : PF.PA w9 pq gq 1 n cq ((filled zs (k + 1)).map (.float .f32)) := by
            have e1 : (((filled zs k).map (Value.float .f32)).set ((k : Int).toNat * 1 + ((0 : Nat) : Int).toNat) (.float .f32 z)) = (filled zs (k + 1)).map (.float .f32) := by
              rw [Int.toNat_natCast, Int.toNat_natCast, Nat.mul_one, Nat.add_zero, ← List.map_set, HZ.out]
            rw [e1] at hq9
            exact hq9
          have hg9' := grown_then hgr hg9
          clear hq9 hg9
          by_cases hc : cn = 0
          · subst hc
            go_wp2_with fail
            go_roundw
            case rel => exact ⟨k + 1, by omega, by rw [HA.out, HE.out]; rfl, by rw [HL.out]; simp [Flo.lawE, HE.out], by rw [HL.out]; simp [Flo.lawE, HE.out], by rw [HL.out]; simp [Flo.lawE, HE.out], by go_num, hq9', hg9'⟩
            case measure => simp [intOf]; omega
          · have hc1 : ¬ (cn : Int) = 0 := by omega
            cases hlt : PF.ltE z l with
            | true =>
              have h2 : (FloatKind.f32.format.order z l == some .lt) = true := hlt
              have LT := Lib.hid hlt; clear hlt
              cases hgt : PF.gtE z m with
              | true =>
                have h3 : (FloatKind.f32.format.order z m == some .gt) = true := hgt
                have GT := Lib.hid hgt; clear hgt
                go_wp2_with fail
                go_roundw
                case rel => exact ⟨k + 1, by omega, by rw [HA.out, HE.out]; rfl, by rw [HL.out]; simp [Flo.lawE, HE.out, LT.out, GT.out, hc], by rw [HL.out]; simp [Flo.lawE, HE.out, LT.out, GT.out, hc], by rw [HL.out]; simp [Flo.lawE, HE.out, LT.out, GT.out, hc], by go_num, hq9', hg9'⟩
                case measure => simp [intOf]; omega
              | false =>
                have h3 : (FloatKind.f32.format.order z m == some .gt) = false := hgt
                have GT := Lib.hid hgt; clear hgt
                go_wp2_with fail
                go_roundw
                case rel => exact ⟨k + 1, by omega, by rw [HA.out, HE.out]; rfl, by rw [HL.out]; simp [Flo.lawE, HE.out, LT.out, GT.out, hc], by rw [HL.out]; simp [Flo.lawE, HE.out, LT.out, GT.out, hc], by rw [HL.out]; simp [Flo.lawE, HE.out, LT.out, GT.out, hc], by go_num, hq9', hg9'⟩
                case measure => simp [intOf]; omega
            | false =>
              have h2 : (FloatKind.f32.format.order z l == some .lt) = false := hlt
              have LT := Lib.hid hlt; clear hlt
              cases hgt : PF.gtE z m with
              | true =>
                have h3 : (FloatKind.f32.format.order z m == some .gt) = true := hgt
                have GT := Lib.hid hgt; clear hgt
                go_wp2_with fail
                go_roundw
                case rel => exact ⟨k + 1, by omega, by rw [HA.out, HE.out]; rfl, by rw [HL.out]; simp [Flo.lawE, HE.out, LT.out, GT.out, hc], by rw [HL.out]; simp [Flo.lawE, HE.out, LT.out, GT.out, hc], by rw [HL.out]; simp [Flo.lawE, HE.out, LT.out, GT.out, hc], by go_num, hq9', hg9'⟩
                case measure => simp [intOf]; omega
              | false =>
                have h3 : (FloatKind.f32.format.order z m == some .gt) = false := hgt
                have GT := Lib.hid hgt; clear hgt
                go_wp2_with fail
                go_roundw
                case rel => exact ⟨k + 1, by omega, by rw [HA.out, HE.out]; rfl, by rw [HL.out]; simp [Flo.lawE, HE.out, LT.out, GT.out, hc], by rw [HL.out]; simp [Flo.lawE, HE.out, LT.out, GT.out, hc], by rw [HL.out]; simp [Flo.lawE, HE.out, LT.out, GT.out, hc], by go_num, hq9', hg9'⟩
                case measure => simp [intOf]; omega
        | false =>
          go_wp2_with fail
          refine (PF.set_in pq gq 1 n cq _ ((0 : Nat) : Int) (k : Int) z _ hq (by omega) (by omega) (by omega) (by omega)).mono ?_
          rintro e w9 ⟨rfl, hq9, hg9⟩
          have hq9' : PF.PA w9 pq gq 1 n cq ((filled zs (k + 1)).map (.float .f32)) := by
            have e1 : (((filled zs k).map (Value.float .f32)).set ((k : Int).toNat * 1 + ((0 : Nat) : Int).toNat) (.float .f32 z)) = (filled zs (k + 1)).map (.float .f32) := by
              rw [Int.toNat_natCast, Int.toNat_natCast, Nat.mul_one, Nat.add_zero, ← List.map_set, HZ.out]
            rw [e1] at hq9
            exact hq9
          have hg9' := grown_then hgr hg9
          clear hq9 hg9
          by_cases hc : cn = 0
          · subst hc
            go_wp2_with fail
            go_roundw
            case rel => exact ⟨k + 1, by omega, by rw [HA.out, HE.out]; rfl, by rw [HL.out]; simp [Flo.lawE, HE.out], by rw [HL.out]; simp [Flo.lawE, HE.out], by rw [HL.out]; simp [Flo.lawE, HE.out], by go_num, hq9', hg9'⟩
            case measure => simp [intOf]; omega
          · have hc1 : ¬ (cn : Int) = 0 := by omega
            cases hlt : PF.ltE z l with
            | true =>
              have h2 : (FloatKind.f32.format.order z l == some .lt) = true := hlt
              have LT := Lib.hid hlt; clear hlt
              cases hgt : PF.gtE z m with
              | true =>
                have h3 : (FloatKind.f32.format.order z m == some .gt) = true := hgt
                have GT := Lib.hid hgt; clear hgt
                go_wp2_with fail
                go_roundw
                case rel => exact ⟨k + 1, by omega, by rw [HA.out, HE.out]; rfl, by rw [HL.out]; simp [Flo.lawE, HE.out, LT.out, GT.out, hc], by rw [HL.out]; simp [Flo.lawE, HE.out, LT.out, GT.out, hc], by rw [HL.out]; simp [Flo.lawE, HE.out, LT.out, GT.out, hc], by go_num, hq9', hg9'⟩
                case measure => simp [intOf]; omega
              | false =>
                have h3 : (FloatKind.f32.format.order z m == some .gt) = false := hgt
                have GT := Lib.hid hgt; clear hgt
                go_wp2_with fail
                go_roundw
                case rel => exact ⟨k + 1, by omega, by rw [HA.out, HE.out]; rfl, by rw [HL.out]; simp [Flo.lawE, HE.out, LT.out, GT.out, hc], by rw [HL.out]; simp [Flo.lawE, HE.out, LT.out, GT.out, hc], by rw [HL.out]; simp [Flo.lawE, HE.out, LT.out, GT.out, hc], by go_num, hq9', hg9'⟩
                case measure => simp [intOf]; omega
            | false =>
              have h2 : (FloatKind.f32.format.order z l == some .lt) = false := hlt
              have LT := Lib.hid hlt; clear hlt
              cases hgt : PF.gtE z m with
              | true =>
                have h3 : (FloatKind.f32.format.order z m == some .gt) = true := hgt
                have GT := Lib.hid hgt; clear hgt
                go_wp2_with fail
                go_roundw
                case rel => exact ⟨k + 1, by omega, by rw [HA.out, HE.out]; rfl, by rw [HL.out]; simp [Flo.lawE, HE.out, LT.out, GT.out, hc], by rw [HL.out]; simp [Flo.lawE, HE.out, LT.out, GT.out, hc], by rw [HL.out]; simp [Flo.lawE, HE.out, LT.out, GT.out, hc], by go_num, hq9', hg9'⟩
                case measure => simp [intOf]; omega
              | false =>
                have h3 : (FloatKind.f32.format.order z m == some .gt) = false := hgt
                have GT := Lib.hid hgt; clear hgt
                go_wp2_with fail
                go_roundw
                case rel => exact ⟨k + 1, by omega, by rw [HA.out, HE.out]; rfl, by rw [HL.out]; simp [Flo.lawE, HE.out, LT.out, GT.out, hc], by rw [HL.out]; simp [Flo.lawE, HE.out, LT.out, GT.out, hc], by rw [HL.out]; simp [Flo.lawE, HE.out, LT.out, GT.out, hc], by go_num, hq9', hg9'⟩
                case measure => simp [intOf]; omega
    · have hkn : k = n := by omega
      clear hk hkl
      subst hkn
      rw [← HLEN.out, filled_all] at hq
      have htk : zs.take k = zs := List.take_of_length_le (by rw [HLEN.out]; exact Nat.le_refl _)
      rw [htk]
      clear htk
      rw [HLEN.out] at hq
      have hwl := Flo.eqL_self zs
      obtain ⟨g1, g2, g3, g4⟩ := Flo.agree_all zs
      obtain ⟨wh, hwh⟩ : ∃ wh, zs.all (fun v => PF.eqE v v) = wh := ⟨_, rfl⟩
      have hcn : (Flo.lawL zs).1 ≤ k := by
        have := law_count zs
        rw [HLEN.out] at this
        exact this
      obtain ⟨st, hst⟩ : ∃ st, Flo.lawL zs = st := ⟨_, rfl⟩
      rw [hwh] at hwl ⊢
      rw [hst] at g1 g2 g3 hcn ⊢
      clear hwh hst g4
      obtain ⟨cn, l, m⟩ := st
      simp only at g1 g2 g3 hcn ⊢
      have G1 := Lib.hid g1; clear g1
      have G2 := Lib.hid g2; clear g2
      have G3 := Lib.hid g3; clear g3
      have HWL := Lib.hid hwl; clear hwl
      have hp := hp3.grown hgr (by simp; omega) (by simp; omega)
      have hsl4 := sl_grown hsl3 hgr (by simp; omega)
      have a4 := a3.grown hgr a3.size (fun j hj => by injection hj with hj; omega)
      have hfin := rowsL_whole zs HLEN.out
      have HROW := Lib.hid hfin; clear hfin
      go_wp2_with fail
      refine (PF.ends_any p g k 1 cp zs _ hp).mono ?_
      rintro e w' ⟨rfl, q1, rfl⟩
      simp only [G1.out, G2.out, G3.out]
      by_cases hc0 : 0 < cn
      · rw [decide_eq_true hc0]
        go_wp2_with fail
        refine (alike_any l _).mono ?_
        rintro e w' ⟨rfl, q2, rfl⟩
        go_wp2_with fail
        refine (alike_any m _).mono ?_
        rintro e w' ⟨rfl, q3, rfl⟩
        go_wp2_with fail
        refine (PF.cut_yes p g k 1 cp _ 0 0 k 1 _ (hp.drewN _) (flts_one _) (by omega) (by omega) (by omega) (by omega)).mono ?_
        rintro e w5 ⟨pc, gc, cc, rfl, hc5, m1, m2, b5⟩
        rw [HROW.out] at hc5
        have b5' : Below wr.heap.size wr w5 := ⟨b5.os, b5.tape, b5.output, b5.size, b5.block⟩
        have hp5 := hp.below b5'
        have hq5 := hq.below b5'
        have hsl5 := hsl4.below b5'
        have a5 := below_then a4 b5'
        go_wp2_with fail
        refine (PF.same_any pc gc k 1 cc p g k 1 cp zs zs _ hc5 hp5).mono ?_
        rintro e w' ⟨rfl, q4, rfl⟩
        rw [show PF.sameB k 1 k 1 zs zs = wh by unfold PF.sameB; rw [HWL.out]; simp]
        cases wh with
        | true =>
          go_wp2_with fail
          refine (PF.same_any p g k 1 cp p g k 1 cp zs zs _ (hp5.drewN _) (hp5.drewN _)).mono ?_
          rintro e w' ⟨rfl, q5, rfl⟩
          rw [show PF.sameB k 1 k 1 zs zs = true by unfold PF.sameB; rw [HWL.out]; simp]
          go_wp2_with fail
          refine (PF.same_any pq gq 1 k cq p g k 1 cp zs zs _ (hq5.drewN _) (hp5.drewN _)).mono ?_
          rintro e w' ⟨rfl, q6, rfl⟩
          by_cases hk1 : k = 1
          · have hk2 : ¬ 1 < k := by omega
            have hk3 : (PF.sameB 1 k k 1 zs zs) = true := by rw [hk1]; unfold PF.sameB; rw [HWL.out]; simp
            rw [hk3]
            clear hk3 hk1
            go_wp2_with fail
            refine (PF.pix_any pc gc k 1 cc _ _ (hc5.drewN _) (flts_one _)).mono ?_
            rintro e w6 ⟨v, rfl, ⟨gl, cl, curl, rfl, i1, i2, i3, i4, i5, i6⟩, b6⟩
            have sl6 : Sl w6 (some ⟨gl, 0, none⟩) k (zs.map (.float .f32)) := Sl.of_blk i1 (by rw [← i3, Nat.mul_one]) (by omega)
            have b6' : Below w5.heap.size w5 w6 := ⟨b6.os, b6.tape, b6.output, b6.size, b6.block⟩
            have hq6 := hq5.below b6'
            have hsl6 := hsl5.below b6'
            rw [Nat.mul_one] at i4 ⊢
            go_wp2_with fail
            refine (PF.pix_any pq gq 1 k cq _ _ hq6 (flts_one _)).mono ?_
            rintro e w7 ⟨v, rfl, ⟨gm, cm, curm, rfl, j1, j2, j3, j4, j5, j6⟩, b7⟩
            have sm7 : Sl w7 (some ⟨gm, 0, none⟩) k (zs.map (.float .f32)) := Sl.of_blk j1 (by rw [← j3, Nat.one_mul]) (by omega)
            have sl7 := sl6.below b7
            have hsl7 := hsl6.below b7
            have a7 := below_then (below_then a5 b6') b7
            rw [Nat.one_mul] at j4 ⊢
            go_wp2_with fail
            go_loopw [22] (fun i wr => ∃ j q : Nat, j ≤ k ∧ i = .int .i64 j ∧ wr = w7.drewN q) (fun i _ => k - (intOf i).toNat)
            case atStart => exact ⟨0, 0, Nat.zero_le _, rfl, rfl⟩
            case round =>
              obtain ⟨j, q, hj, rfl, rfl⟩ := hrel
              by_cases hjl : j < k
              · have d1 := sl_flt (sl7.drewN q) hjl
                have d2 := sl_flt (sm7.drewN q) hjl
                have d3 := sl_flt (hsl7.drewN q) hjl
                rw [Nat.zero_add] at d1 d2
                obtain ⟨z, hzz⟩ : ∃ z, zs.getD j 0 = z := ⟨_, rfl⟩
                rw [hzz] at d1 d2 d3
                clear hzz
                go_upto_region 36 with fail
                refine Lex3.wp_region_lex [47] (fun u' => u'.cell? ⟨gl, j, none⟩ = some (.float .f32 z) ∧ u'.cell? ⟨gm, j, none⟩ = some (.float .f32 z) ∧ u'.cell? ⟨b0, o0 + j, none⟩ = some (.float .f32 z)) (fun u n h => h) ⟨d1, d2, d3⟩ (by kernel_rfl) (by kernel_rfl) ?_
                refine Lex3.run_free (v := ?_) (by rfl) (by rfl) (fun u => ?_) ?_; rotate_left; (go_simp; try with_reducible rfl); simp only [Act.put, List.setIfInBounds_toArray, List.set_cons_zero, List.set_cons_succ]
                refine Lex3.run_free (v := ?_) (by rfl) (by rfl) (fun u => ?_) ?_; rotate_left; (go_simp; try with_reducible rfl); simp only [Act.put, List.setIfInBounds_toArray, List.set_cons_zero, List.set_cons_succ]
                refine Lex3.run_free (v := ?_) (by rfl) (by rfl) (fun u => ?_) ?_; rotate_left; (go_simp; try with_reducible rfl); simp only [Act.put, List.setIfInBounds_toArray, List.set_cons_zero, List.set_cons_succ]
                refine Lex3.run_load (v := ?_) (by rfl) (by rfl) (fun u hu => ?_) ?_; rotate_left; (obtain ⟨hu0, hu1, hu2⟩ := hu; go_simp; try with_reducible rfl); simp only [Act.put, List.setIfInBounds_toArray, List.set_cons_zero, List.set_cons_succ]
                refine Lex3.run_free (v := ?_) (by rfl) (by rfl) (fun u => ?_) ?_; rotate_left; (go_simp; try with_reducible rfl); simp only [Act.put, List.setIfInBounds_toArray, List.set_cons_zero, List.set_cons_succ]
                refine Lex3.run_free (v := ?_) (by rfl) (by rfl) (fun u => ?_) ?_; rotate_left; (go_simp; try with_reducible rfl); simp only [Act.put, List.setIfInBounds_toArray, List.set_cons_zero, List.set_cons_succ]
                refine Lex3.run_free (v := ?_) (by rfl) (by rfl) (fun u => ?_) ?_; rotate_left; (go_simp; try with_reducible rfl); simp only [Act.put, List.setIfInBounds_toArray, List.set_cons_zero, List.set_cons_succ]
                refine Lex3.run_load (v := ?_) (by rfl) (by rfl) (fun u hu => ?_) ?_; rotate_left; (obtain ⟨hu0, hu1, hu2⟩ := hu; go_simp; try with_reducible rfl); simp only [Act.put, List.setIfInBounds_toArray, List.set_cons_zero, List.set_cons_succ]
                refine Lex3.run_call (v := .bool true) (f := 47) (args := #[.float .f32 z, .float .f32 z]) (by rfl) (by rfl) (fun n => ?_) (fun n => alike_any z _) ?_
                · go_simp
                simp only [Act.put, List.setIfInBounds_toArray, List.set_cons_zero, List.set_cons_succ]
                refine Lex3.run_free (v := ?_) (by rfl) (by rfl) (fun u => ?_) ?_; rotate_left; (go_simp; try with_reducible rfl); simp only [Act.put, List.setIfInBounds_toArray, List.set_cons_zero, List.set_cons_succ]
                refine Lex3.run_free (v := ?_) (by rfl) (by rfl) (fun u => ?_) ?_; rotate_left; (go_simp; try with_reducible rfl); simp only [Act.put, List.setIfInBounds_toArray, List.set_cons_zero, List.set_cons_succ]
                refine Lex3.run_free (v := ?_) (by rfl) (by kernel_rfl) (fun u => ?_) ?_; rotate_left; (go_simp; try with_reducible rfl); simp only [Act.put, List.setIfInBounds_toArray, List.set_cons_zero, List.set_cons_succ]
                refine Lex3.run_free (v := ?_) (by rfl) (by kernel_rfl) (fun u => ?_) ?_; rotate_left; (go_simp; try with_reducible rfl); simp only [Act.put, List.setIfInBounds_toArray, List.set_cons_zero, List.set_cons_succ]
                refine Lex3.run_free (v := ?_) (by rfl) (by kernel_rfl) (fun u => ?_) ?_; rotate_left; (go_simp; try with_reducible rfl); simp only [Act.put, List.setIfInBounds_toArray, List.set_cons_zero, List.set_cons_succ]
                refine Lex3.run_load (v := ?_) (by rfl) (by kernel_rfl) (fun u hu => ?_) ?_; rotate_left; (obtain ⟨hu0, hu1, hu2⟩ := hu; go_simp; try with_reducible rfl); simp only [Act.put, List.setIfInBounds_toArray, List.set_cons_zero, List.set_cons_succ]
                refine Lex3.run_free (v := ?_) (by rfl) (by kernel_rfl) (fun u => ?_) ?_; rotate_left; (go_simp; try with_reducible rfl); simp only [Act.put, List.setIfInBounds_toArray, List.set_cons_zero, List.set_cons_succ]
                refine Lex3.run_free (v := ?_) (by rfl) (by kernel_rfl) (fun u => ?_) ?_; rotate_left; (go_simp; try with_reducible rfl); simp only [Act.put, List.setIfInBounds_toArray, List.set_cons_zero, List.set_cons_succ]
                refine Lex3.run_free (v := ?_) (by rfl) (by kernel_rfl) (fun u => ?_) ?_; rotate_left; (go_simp; try with_reducible rfl); simp only [Act.put, List.setIfInBounds_toArray, List.set_cons_zero, List.set_cons_succ]
                refine Lex3.run_load (v := ?_) (by rfl) (by kernel_rfl) (fun u hu => ?_) ?_; rotate_left; (obtain ⟨hu0, hu1, hu2⟩ := hu; go_simp; try with_reducible rfl); simp only [Act.put, List.setIfInBounds_toArray, List.set_cons_zero, List.set_cons_succ]
                refine Lex3.run_call (v := .bool true) (f := 47) (args := #[.float .f32 z, .float .f32 z]) (by rfl) (by kernel_rfl) (fun n => ?_) (fun n => alike_any z _) ?_
                · go_simp
                simp only [Act.put, List.setIfInBounds_toArray, List.set_cons_zero, List.set_cons_succ]
                refine Lex3.run_free (v := ?_) (by rfl) (by kernel_rfl) (fun u => ?_) ?_; rotate_left; (go_simp; try with_reducible rfl); simp only [Act.put, List.setIfInBounds_toArray, List.set_cons_zero, List.set_cons_succ]
                refine Lex3.run_free (v := ?_) (by rfl) (by rfl) (fun u => ?_) ?_; rotate_left; (go_simp; try with_reducible rfl); simp only [Act.put, List.setIfInBounds_toArray, List.set_cons_zero, List.set_cons_succ]
                refine Lex3.run_nil (fun n3 => ?_)
                go_wp2_with fail
                go_roundw
                case rel => exact ⟨j + 1, q + 1 + n3, by omega, by go_num, by simp [Nat.add_assoc]⟩
                case measure => simp [intOf]; omega
              · go_wp2_with fail
                go_ret
                exact ⟨rfl, below_drewN a7 _⟩
          · rw [sameB_diff hk1]
            go_wp2_with fail
            refine (PF.pix_any pc gc k 1 cc _ _ (hc5.drewN _) (flts_one _)).mono ?_
            rintro e w6 ⟨v, rfl, ⟨gl, cl, curl, rfl, i1, i2, i3, i4, i5, i6⟩, b6⟩
            have sl6 : Sl w6 (some ⟨gl, 0, none⟩) k (zs.map (.float .f32)) := Sl.of_blk i1 (by rw [← i3, Nat.mul_one]) (by omega)
            have b6' : Below w5.heap.size w5 w6 := ⟨b6.os, b6.tape, b6.output, b6.size, b6.block⟩
            have hq6 := hq5.below b6'
            have hsl6 := hsl5.below b6'
            rw [Nat.mul_one] at i4 ⊢
            go_wp2_with fail
            refine (PF.pix_any pq gq 1 k cq _ _ hq6 (flts_one _)).mono ?_
            rintro e w7 ⟨v, rfl, ⟨gm, cm, curm, rfl, j1, j2, j3, j4, j5, j6⟩, b7⟩
            have sm7 : Sl w7 (some ⟨gm, 0, none⟩) k (zs.map (.float .f32)) := Sl.of_blk j1 (by rw [← j3, Nat.one_mul]) (by omega)
            have sl7 := sl6.below b7
            have hsl7 := hsl6.below b7
            have a7 := below_then (below_then a5 b6') b7
            rw [Nat.one_mul] at j4 ⊢
            go_wp2_with fail
            go_loopw [22] (fun i wr => ∃ j q : Nat, j ≤ k ∧ i = .int .i64 j ∧ wr = w7.drewN q) (fun i _ => k - (intOf i).toNat)
            case atStart => exact ⟨0, 0, Nat.zero_le _, rfl, rfl⟩
            case round =>
              obtain ⟨j, q, hj, rfl, rfl⟩ := hrel
              by_cases hjl : j < k
              · have d1 := sl_flt (sl7.drewN q) hjl
                have d2 := sl_flt (sm7.drewN q) hjl
                have d3 := sl_flt (hsl7.drewN q) hjl
                rw [Nat.zero_add] at d1 d2
                obtain ⟨z, hzz⟩ : ∃ z, zs.getD j 0 = z := ⟨_, rfl⟩
                rw [hzz] at d1 d2 d3
                clear hzz
                go_upto_region 36 with fail
                refine Lex3.wp_region_lex [47] (fun u' => u'.cell? ⟨gl, j, none⟩ = some (.float .f32 z) ∧ u'.cell? ⟨gm, j, none⟩ = some (.float .f32 z) ∧ u'.cell? ⟨b0, o0 + j, none⟩ = some (.float .f32 z)) (fun u n h => h) ⟨d1, d2, d3⟩ (by kernel_rfl) (by kernel_rfl) ?_
                refine Lex3.run_free (v := ?_) (by rfl) (by rfl) (fun u => ?_) ?_; rotate_left; (go_simp; try with_reducible rfl); simp only [Act.put, List.setIfInBounds_toArray, List.set_cons_zero, List.set_cons_succ]
                refine Lex3.run_free (v := ?_) (by rfl) (by rfl) (fun u => ?_) ?_; rotate_left; (go_simp; try with_reducible rfl); simp only [Act.put, List.setIfInBounds_toArray, List.set_cons_zero, List.set_cons_succ]
                refine Lex3.run_free (v := ?_) (by rfl) (by rfl) (fun u => ?_) ?_; rotate_left; (go_simp; try with_reducible rfl); simp only [Act.put, List.setIfInBounds_toArray, List.set_cons_zero, List.set_cons_succ]
                refine Lex3.run_load (v := ?_) (by rfl) (by rfl) (fun u hu => ?_) ?_; rotate_left; (obtain ⟨hu0, hu1, hu2⟩ := hu; go_simp; try with_reducible rfl); simp only [Act.put, List.setIfInBounds_toArray, List.set_cons_zero, List.set_cons_succ]
                refine Lex3.run_free (v := ?_) (by rfl) (by rfl) (fun u => ?_) ?_; rotate_left; (go_simp; try with_reducible rfl); simp only [Act.put, List.setIfInBounds_toArray, List.set_cons_zero, List.set_cons_succ]
                refine Lex3.run_free (v := ?_) (by rfl) (by rfl) (fun u => ?_) ?_; rotate_left; (go_simp; try with_reducible rfl); simp only [Act.put, List.setIfInBounds_toArray, List.set_cons_zero, List.set_cons_succ]
                refine Lex3.run_free (v := ?_) (by rfl) (by rfl) (fun u => ?_) ?_; rotate_left; (go_simp; try with_reducible rfl); simp only [Act.put, List.setIfInBounds_toArray, List.set_cons_zero, List.set_cons_succ]
                refine Lex3.run_load (v := ?_) (by rfl) (by rfl) (fun u hu => ?_) ?_; rotate_left; (obtain ⟨hu0, hu1, hu2⟩ := hu; go_simp; try with_reducible rfl); simp only [Act.put, List.setIfInBounds_toArray, List.set_cons_zero, List.set_cons_succ]
                refine Lex3.run_call (v := .bool true) (f := 47) (args := #[.float .f32 z, .float .f32 z]) (by rfl) (by rfl) (fun n => ?_) (fun n => alike_any z _) ?_
                · go_simp
                simp only [Act.put, List.setIfInBounds_toArray, List.set_cons_zero, List.set_cons_succ]
                refine Lex3.run_free (v := ?_) (by rfl) (by rfl) (fun u => ?_) ?_; rotate_left; (go_simp; try with_reducible rfl); simp only [Act.put, List.setIfInBounds_toArray, List.set_cons_zero, List.set_cons_succ]
                refine Lex3.run_free (v := ?_) (by rfl) (by rfl) (fun u => ?_) ?_; rotate_left; (go_simp; try with_reducible rfl); simp only [Act.put, List.setIfInBounds_toArray, List.set_cons_zero, List.set_cons_succ]
                refine Lex3.run_free (v := ?_) (by rfl) (by kernel_rfl) (fun u => ?_) ?_; rotate_left; (go_simp; try with_reducible rfl); simp only [Act.put, List.setIfInBounds_toArray, List.set_cons_zero, List.set_cons_succ]
                refine Lex3.run_free (v := ?_) (by rfl) (by kernel_rfl) (fun u => ?_) ?_; rotate_left; (go_simp; try with_reducible rfl); simp only [Act.put, List.setIfInBounds_toArray, List.set_cons_zero, List.set_cons_succ]
                refine Lex3.run_free (v := ?_) (by rfl) (by kernel_rfl) (fun u => ?_) ?_; rotate_left; (go_simp; try with_reducible rfl); simp only [Act.put, List.setIfInBounds_toArray, List.set_cons_zero, List.set_cons_succ]
                refine Lex3.run_load (v := ?_) (by rfl) (by kernel_rfl) (fun u hu => ?_) ?_; rotate_left; (obtain ⟨hu0, hu1, hu2⟩ := hu; go_simp; try with_reducible rfl); simp only [Act.put, List.setIfInBounds_toArray, List.set_cons_zero, List.set_cons_succ]
                refine Lex3.run_free (v := ?_) (by rfl) (by kernel_rfl) (fun u => ?_) ?_; rotate_left; (go_simp; try with_reducible rfl); simp only [Act.put, List.setIfInBounds_toArray, List.set_cons_zero, List.set_cons_succ]
                refine Lex3.run_free (v := ?_) (by rfl) (by kernel_rfl) (fun u => ?_) ?_; rotate_left; (go_simp; try with_reducible rfl); simp only [Act.put, List.setIfInBounds_toArray, List.set_cons_zero, List.set_cons_succ]
                refine Lex3.run_free (v := ?_) (by rfl) (by kernel_rfl) (fun u => ?_) ?_; rotate_left; (go_simp; try with_reducible rfl); simp only [Act.put, List.setIfInBounds_toArray, List.set_cons_zero, List.set_cons_succ]
                refine Lex3.run_load (v := ?_) (by rfl) (by kernel_rfl) (fun u hu => ?_) ?_; rotate_left; (obtain ⟨hu0, hu1, hu2⟩ := hu; go_simp; try with_reducible rfl); simp only [Act.put, List.setIfInBounds_toArray, List.set_cons_zero, List.set_cons_succ]
                refine Lex3.run_call (v := .bool true) (f := 47) (args := #[.float .f32 z, .float .f32 z]) (by rfl) (by kernel_rfl) (fun n => ?_) (fun n => alike_any z _) ?_
                · go_simp
                simp only [Act.put, List.setIfInBounds_toArray, List.set_cons_zero, List.set_cons_succ]
                refine Lex3.run_free (v := ?_) (by rfl) (by kernel_rfl) (fun u => ?_) ?_; rotate_left; (go_simp; try with_reducible rfl); simp only [Act.put, List.setIfInBounds_toArray, List.set_cons_zero, List.set_cons_succ]
                refine Lex3.run_free (v := ?_) (by rfl) (by rfl) (fun u => ?_) ?_; rotate_left; (go_simp; try with_reducible rfl); simp only [Act.put, List.setIfInBounds_toArray, List.set_cons_zero, List.set_cons_succ]
                refine Lex3.run_nil (fun n3 => ?_)
                go_wp2_with fail
                go_roundw
                case rel => exact ⟨j + 1, q + 1 + n3, by omega, by go_num, by simp [Nat.add_assoc]⟩
                case measure => simp [intOf]; omega
              · go_wp2_with fail
                go_ret
                exact ⟨rfl, below_drewN a7 _⟩
        | false =>
          go_wp2_with fail
          refine (PF.same_any p g k 1 cp p g k 1 cp zs zs _ (hp5.drewN _) (hp5.drewN _)).mono ?_
          rintro e w' ⟨rfl, q5, rfl⟩
          rw [show PF.sameB k 1 k 1 zs zs = false by unfold PF.sameB; rw [HWL.out]; simp]
          go_wp2_with fail
          refine (PF.same_any pq gq 1 k cq p g k 1 cp zs zs _ (hq5.drewN _) (hp5.drewN _)).mono ?_
          rintro e w' ⟨rfl, q6, rfl⟩
          by_cases hk1 : k = 1
          · have hk2 : ¬ 1 < k := by omega
            have hk3 : (PF.sameB 1 k k 1 zs zs) = false := by rw [hk1]; unfold PF.sameB; rw [HWL.out]; simp
            rw [hk3]
            clear hk3 hk1
            go_wp2_with fail
            refine (PF.pix_any pc gc k 1 cc _ _ (hc5.drewN _) (flts_one _)).mono ?_
            rintro e w6 ⟨v, rfl, ⟨gl, cl, curl, rfl, i1, i2, i3, i4, i5, i6⟩, b6⟩
            have sl6 : Sl w6 (some ⟨gl, 0, none⟩) k (zs.map (.float .f32)) := Sl.of_blk i1 (by rw [← i3, Nat.mul_one]) (by omega)
            have b6' : Below w5.heap.size w5 w6 := ⟨b6.os, b6.tape, b6.output, b6.size, b6.block⟩
            have hq6 := hq5.below b6'
            have hsl6 := hsl5.below b6'
            rw [Nat.mul_one] at i4 ⊢
            go_wp2_with fail
            refine (PF.pix_any pq gq 1 k cq _ _ hq6 (flts_one _)).mono ?_
            rintro e w7 ⟨v, rfl, ⟨gm, cm, curm, rfl, j1, j2, j3, j4, j5, j6⟩, b7⟩
            have sm7 : Sl w7 (some ⟨gm, 0, none⟩) k (zs.map (.float .f32)) := Sl.of_blk j1 (by rw [← j3, Nat.one_mul]) (by omega)
            have sl7 := sl6.below b7
            have hsl7 := hsl6.below b7
            have a7 := below_then (below_then a5 b6') b7
            rw [Nat.one_mul] at j4 ⊢
            go_wp2_with fail
            go_loopw [22] (fun i wr => ∃ j q : Nat, j ≤ k ∧ i = .int .i64 j ∧ wr = w7.drewN q) (fun i _ => k - (intOf i).toNat)
            case atStart => exact ⟨0, 0, Nat.zero_le _, rfl, rfl⟩
            case round =>
              obtain ⟨j, q, hj, rfl, rfl⟩ := hrel
              by_cases hjl : j < k
              · have d1 := sl_flt (sl7.drewN q) hjl
                have d2 := sl_flt (sm7.drewN q) hjl
                have d3 := sl_flt (hsl7.drewN q) hjl
                rw [Nat.zero_add] at d1 d2
                obtain ⟨z, hzz⟩ : ∃ z, zs.getD j 0 = z := ⟨_, rfl⟩
                rw [hzz] at d1 d2 d3
                clear hzz
                go_upto_region 36 with fail
                refine Lex3.wp_region_lex [47] (fun u' => u'.cell? ⟨gl, j, none⟩ = some (.float .f32 z) ∧ u'.cell? ⟨gm, j, none⟩ = some (.float .f32 z) ∧ u'.cell? ⟨b0, o0 + j, none⟩ = some (.float .f32 z)) (fun u n h => h) ⟨d1, d2, d3⟩ (by kernel_rfl) (by kernel_rfl) ?_
                refine Lex3.run_free (v := ?_) (by rfl) (by rfl) (fun u => ?_) ?_; rotate_left; (go_simp; try with_reducible rfl); simp only [Act.put, List.setIfInBounds_toArray, List.set_cons_zero, List.set_cons_succ]
                refine Lex3.run_free (v := ?_) (by rfl) (by rfl) (fun u => ?_) ?_; rotate_left; (go_simp; try with_reducible rfl); simp only [Act.put, List.setIfInBounds_toArray, List.set_cons_zero, List.set_cons_succ]
                refine Lex3.run_free (v := ?_) (by rfl) (by rfl) (fun u => ?_) ?_; rotate_left; (go_simp; try with_reducible rfl); simp only [Act.put, List.setIfInBounds_toArray, List.set_cons_zero, List.set_cons_succ]
                refine Lex3.run_load (v := ?_) (by rfl) (by rfl) (fun u hu => ?_) ?_; rotate_left; (obtain ⟨hu0, hu1, hu2⟩ := hu; go_simp; try with_reducible rfl); simp only [Act.put, List.setIfInBounds_toArray, List.set_cons_zero, List.set_cons_succ]
                refine Lex3.run_free (v := ?_) (by rfl) (by rfl) (fun u => ?_) ?_; rotate_left; (go_simp; try with_reducible rfl); simp only [Act.put, List.setIfInBounds_toArray, List.set_cons_zero, List.set_cons_succ]
                refine Lex3.run_free (v := ?_) (by rfl) (by rfl) (fun u => ?_) ?_; rotate_left; (go_simp; try with_reducible rfl); simp only [Act.put, List.setIfInBounds_toArray, List.set_cons_zero, List.set_cons_succ]
                refine Lex3.run_free (v := ?_) (by rfl) (by rfl) (fun u => ?_) ?_; rotate_left; (go_simp; try with_reducible rfl); simp only [Act.put, List.setIfInBounds_toArray, List.set_cons_zero, List.set_cons_succ]
                refine Lex3.run_load (v := ?_) (by rfl) (by rfl) (fun u hu => ?_) ?_; rotate_left; (obtain ⟨hu0, hu1, hu2⟩ := hu; go_simp; try with_reducible rfl); simp only [Act.put, List.setIfInBounds_toArray, List.set_cons_zero, List.set_cons_succ]
                refine Lex3.run_call (v := .bool true) (f := 47) (args := #[.float .f32 z, .float .f32 z]) (by rfl) (by rfl) (fun n => ?_) (fun n => alike_any z _) ?_
                · go_simp
                simp only [Act.put, List.setIfInBounds_toArray, List.set_cons_zero, List.set_cons_succ]
                refine Lex3.run_free (v := ?_) (by rfl) (by rfl) (fun u => ?_) ?_; rotate_left; (go_simp; try with_reducible rfl); simp only [Act.put, List.setIfInBounds_toArray, List.set_cons_zero, List.set_cons_succ]
                refine Lex3.run_free (v := ?_) (by rfl) (by rfl) (fun u => ?_) ?_; rotate_left; (go_simp; try with_reducible rfl); simp only [Act.put, List.setIfInBounds_toArray, List.set_cons_zero, List.set_cons_succ]
                refine Lex3.run_free (v := ?_) (by rfl) (by kernel_rfl) (fun u => ?_) ?_; rotate_left; (go_simp; try with_reducible rfl); simp only [Act.put, List.setIfInBounds_toArray, List.set_cons_zero, List.set_cons_succ]
                refine Lex3.run_free (v := ?_) (by rfl) (by kernel_rfl) (fun u => ?_) ?_; rotate_left; (go_simp; try with_reducible rfl); simp only [Act.put, List.setIfInBounds_toArray, List.set_cons_zero, List.set_cons_succ]
                refine Lex3.run_free (v := ?_) (by rfl) (by kernel_rfl) (fun u => ?_) ?_; rotate_left; (go_simp; try with_reducible rfl); simp only [Act.put, List.setIfInBounds_toArray, List.set_cons_zero, List.set_cons_succ]
                refine Lex3.run_load (v := ?_) (by rfl) (by kernel_rfl) (fun u hu => ?_) ?_; rotate_left; (obtain ⟨hu0, hu1, hu2⟩ := hu; go_simp; try with_reducible rfl); simp only [Act.put, List.setIfInBounds_toArray, List.set_cons_zero, List.set_cons_succ]
                refine Lex3.run_free (v := ?_) (by rfl) (by kernel_rfl) (fun u => ?_) ?_; rotate_left; (go_simp; try with_reducible rfl); simp only [Act.put, List.setIfInBounds_toArray, List.set_cons_zero, List.set_cons_succ]
                refine Lex3.run_free (v := ?_) (by rfl) (by kernel_rfl) (fun u => ?_) ?_; rotate_left; (go_simp; try with_reducible rfl); simp only [Act.put, List.setIfInBounds_toArray, List.set_cons_zero, List.set_cons_succ]
                refine Lex3.run_free (v := ?_) (by rfl) (by kernel_rfl) (fun u => ?_) ?_; rotate_left; (go_simp; try with_reducible rfl); simp only [Act.put, List.setIfInBounds_toArray, List.set_cons_zero, List.set_cons_succ]
                refine Lex3.run_load (v := ?_) (by rfl) (by kernel_rfl) (fun u hu => ?_) ?_; rotate_left; (obtain ⟨hu0, hu1, hu2⟩ := hu; go_simp; try with_reducible rfl); simp only [Act.put, List.setIfInBounds_toArray, List.set_cons_zero, List.set_cons_succ]
                refine Lex3.run_call (v := .bool true) (f := 47) (args := #[.float .f32 z, .float .f32 z]) (by rfl) (by kernel_rfl) (fun n => ?_) (fun n => alike_any z _) ?_
                · go_simp
                simp only [Act.put, List.setIfInBounds_toArray, List.set_cons_zero, List.set_cons_succ]
                refine Lex3.run_free (v := ?_) (by rfl) (by kernel_rfl) (fun u => ?_) ?_; rotate_left; (go_simp; try with_reducible rfl); simp only [Act.put, List.setIfInBounds_toArray, List.set_cons_zero, List.set_cons_succ]
                refine Lex3.run_free (v := ?_) (by rfl) (by rfl) (fun u => ?_) ?_; rotate_left; (go_simp; try with_reducible rfl); simp only [Act.put, List.setIfInBounds_toArray, List.set_cons_zero, List.set_cons_succ]
                refine Lex3.run_nil (fun n3 => ?_)
                go_wp2_with fail
                go_roundw
                case rel => exact ⟨j + 1, q + 1 + n3, by omega, by go_num, by simp [Nat.add_assoc]⟩
                case measure => simp [intOf]; omega
              · go_wp2_with fail
                go_ret
                exact ⟨rfl, below_drewN a7 _⟩
          · rw [sameB_diff hk1]
            go_wp2_with fail
            refine (PF.pix_any pc gc k 1 cc _ _ (hc5.drewN _) (flts_one _)).mono ?_
            rintro e w6 ⟨v, rfl, ⟨gl, cl, curl, rfl, i1, i2, i3, i4, i5, i6⟩, b6⟩
            have sl6 : Sl w6 (some ⟨gl, 0, none⟩) k (zs.map (.float .f32)) := Sl.of_blk i1 (by rw [← i3, Nat.mul_one]) (by omega)
            have b6' : Below w5.heap.size w5 w6 := ⟨b6.os, b6.tape, b6.output, b6.size, b6.block⟩
            have hq6 := hq5.below b6'
            have hsl6 := hsl5.below b6'
            rw [Nat.mul_one] at i4 ⊢
            go_wp2_with fail
            refine (PF.pix_any pq gq 1 k cq _ _ hq6 (flts_one _)).mono ?_
            rintro e w7 ⟨v, rfl, ⟨gm, cm, curm, rfl, j1, j2, j3, j4, j5, j6⟩, b7⟩
            have sm7 : Sl w7 (some ⟨gm, 0, none⟩) k (zs.map (.float .f32)) := Sl.of_blk j1 (by rw [← j3, Nat.one_mul]) (by omega)
            have sl7 := sl6.below b7
            have hsl7 := hsl6.below b7
            have a7 := below_then (below_then a5 b6') b7
            rw [Nat.one_mul] at j4 ⊢
            go_wp2_with fail
            go_loopw [22] (fun i wr => ∃ j q : Nat, j ≤ k ∧ i = .int .i64 j ∧ wr = w7.drewN q) (fun i _ => k - (intOf i).toNat)
            case atStart => exact ⟨0, 0, Nat.zero_le _, rfl, rfl⟩
            case round =>
              obtain ⟨j, q, hj, rfl, rfl⟩ := hrel
              by_cases hjl : j < k
              · have d1 := sl_flt (sl7.drewN q) hjl
                have d2 := sl_flt (sm7.drewN q) hjl
                have d3 := sl_flt (hsl7.drewN q) hjl
                rw [Nat.zero_add] at d1 d2
                obtain ⟨z, hzz⟩ : ∃ z, zs.getD j 0 = z := ⟨_, rfl⟩
                rw [hzz] at d1 d2 d3
                clear hzz
                go_upto_region 36 with fail
                refine Lex3.wp_region_lex [47] (fun u' => u'.cell? ⟨gl, j, none⟩ = some (.float .f32 z) ∧ u'.cell? ⟨gm, j, none⟩ = some (.float .f32 z) ∧ u'.cell? ⟨b0, o0 + j, none⟩ = some (.float .f32 z)) (fun u n h => h) ⟨d1, d2, d3⟩ (by kernel_rfl) (by kernel_rfl) ?_
                refine Lex3.run_free (v := ?_) (by rfl) (by rfl) (fun u => ?_) ?_; rotate_left; (go_simp; try with_reducible rfl); simp only [Act.put, List.setIfInBounds_toArray, List.set_cons_zero, List.set_cons_succ]
                refine Lex3.run_free (v := ?_) (by rfl) (by rfl) (fun u => ?_) ?_; rotate_left; (go_simp; try with_reducible rfl); simp only [Act.put, List.setIfInBounds_toArray, List.set_cons_zero, List.set_cons_succ]
                refine Lex3.run_free (v := ?_) (by rfl) (by rfl) (fun u => ?_) ?_; rotate_left; (go_simp; try with_reducible rfl); simp only [Act.put, List.setIfInBounds_toArray, List.set_cons_zero, List.set_cons_succ]
                refine Lex3.run_load (v := ?_) (by rfl) (by rfl) (fun u hu => ?_) ?_; rotate_left; (obtain ⟨hu0, hu1, hu2⟩ := hu; go_simp; try with_reducible rfl); simp only [Act.put, List.setIfInBounds_toArray, List.set_cons_zero, List.set_cons_succ]
                refine Lex3.run_free (v := ?_) (by rfl) (by rfl) (fun u => ?_) ?_; rotate_left; (go_simp; try with_reducible rfl); simp only [Act.put, List.setIfInBounds_toArray, List.set_cons_zero, List.set_cons_succ]
                refine Lex3.run_free (v := ?_) (by rfl) (by rfl) (fun u => ?_) ?_; rotate_left; (go_simp; try with_reducible rfl); simp only [Act.put, List.setIfInBounds_toArray, List.set_cons_zero, List.set_cons_succ]
                refine Lex3.run_free (v := ?_) (by rfl) (by rfl) (fun u => ?_) ?_; rotate_left; (go_simp; try with_reducible rfl); simp only [Act.put, List.setIfInBounds_toArray, List.set_cons_zero, List.set_cons_succ]
                refine Lex3.run_load (v := ?_) (by rfl) (by rfl) (fun u hu => ?_) ?_; rotate_left; (obtain ⟨hu0, hu1, hu2⟩ := hu; go_simp; try with_reducible rfl); simp only [Act.put, List.setIfInBounds_toArray, List.set_cons_zero, List.set_cons_succ]
                refine Lex3.run_call (v := .bool true) (f := 47) (args := #[.float .f32 z, .float .f32 z]) (by rfl) (by rfl) (fun n => ?_) (fun n => alike_any z _) ?_
                · go_simp
                simp only [Act.put, List.setIfInBounds_toArray, List.set_cons_zero, List.set_cons_succ]
                refine Lex3.run_free (v := ?_) (by rfl) (by rfl) (fun u => ?_) ?_; rotate_left; (go_simp; try with_reducible rfl); simp only [Act.put, List.setIfInBounds_toArray, List.set_cons_zero, List.set_cons_succ]
                refine Lex3.run_free (v := ?_) (by rfl) (by rfl) (fun u => ?_) ?_; rotate_left; (go_simp; try with_reducible rfl); simp only [Act.put, List.setIfInBounds_toArray, List.set_cons_zero, List.set_cons_succ]
                refine Lex3.run_free (v := ?_) (by rfl) (by kernel_rfl) (fun u => ?_) ?_; rotate_left; (go_simp; try with_reducible rfl); simp only [Act.put, List.setIfInBounds_toArray, List.set_cons_zero, List.set_cons_succ]
                refine Lex3.run_free (v := ?_) (by rfl) (by kernel_rfl) (fun u => ?_) ?_; rotate_left; (go_simp; try with_reducible rfl); simp only [Act.put, List.setIfInBounds_toArray, List.set_cons_zero, List.set_cons_succ]
                refine Lex3.run_free (v := ?_) (by rfl) (by kernel_rfl) (fun u => ?_) ?_; rotate_left; (go_simp; try with_reducible rfl); simp only [Act.put, List.setIfInBounds_toArray, List.set_cons_zero, List.set_cons_succ]
                refine Lex3.run_load (v := ?_) (by rfl) (by kernel_rfl) (fun u hu => ?_) ?_; rotate_left; (obtain ⟨hu0, hu1, hu2⟩ := hu; go_simp; try with_reducible rfl); simp only [Act.put, List.setIfInBounds_toArray, List.set_cons_zero, List.set_cons_succ]
                refine Lex3.run_free (v := ?_) (by rfl) (by kernel_rfl) (fun u => ?_) ?_; rotate_left; (go_simp; try with_reducible rfl); simp only [Act.put, List.setIfInBounds_toArray, List.set_cons_zero, List.set_cons_succ]
                refine Lex3.run_free (v := ?_) (by rfl) (by kernel_rfl) (fun u => ?_) ?_; rotate_left; (go_simp; try with_reducible rfl); simp only [Act.put, List.setIfInBounds_toArray, List.set_cons_zero, List.set_cons_succ]
                refine Lex3.run_free (v := ?_) (by rfl) (by kernel_rfl) (fun u => ?_) ?_; rotate_left; (go_simp; try with_reducible rfl); simp only [Act.put, List.setIfInBounds_toArray, List.set_cons_zero, List.set_cons_succ]
                refine Lex3.run_load (v := ?_) (by rfl) (by kernel_rfl) (fun u hu => ?_) ?_; rotate_left; (obtain ⟨hu0, hu1, hu2⟩ := hu; go_simp; try with_reducible rfl); simp only [Act.put, List.setIfInBounds_toArray, List.set_cons_zero, List.set_cons_succ]
                refine Lex3.run_call (v := .bool true) (f := 47) (args := #[.float .f32 z, .float .f32 z]) (by rfl) (by kernel_rfl) (fun n => ?_) (fun n => alike_any z _) ?_
                · go_simp
                simp only [Act.put, List.setIfInBounds_toArray, List.set_cons_zero, List.set_cons_succ]
                refine Lex3.run_free (v := ?_) (by rfl) (by kernel_rfl) (fun u => ?_) ?_; rotate_left; (go_simp; try with_reducible rfl); simp only [Act.put, List.setIfInBounds_toArray, List.set_cons_zero, List.set_cons_succ]
                refine Lex3.run_free (v := ?_) (by rfl) (by rfl) (fun u => ?_) ?_; rotate_left; (go_simp; try with_reducible rfl); simp only [Act.put, List.setIfInBounds_toArray, List.set_cons_zero, List.set_cons_succ]
                refine Lex3.run_nil (fun n3 => ?_)
                go_wp2_with fail
                go_roundw
                case rel => exact ⟨j + 1, q + 1 + n3, by omega, by go_num, by simp [Nat.add_assoc]⟩
                case measure => simp [intOf]; omega
              · go_wp2_with fail
                go_ret
                exact ⟨rfl, below_drewN a7 _⟩
      · have hcz : cn = 0 := by omega
        subst hcz
        rw [decide_eq_false hc0]
        go_wp2_with fail
        refine (alike_any l _).mono ?_
        rintro e w' ⟨rfl, q2, rfl⟩
        go_wp2_with fail
        refine (alike_any m _).mono ?_
        rintro e w' ⟨rfl, q3, rfl⟩
        go_wp2_with fail
        refine (PF.cut_yes p g k 1 cp _ 0 0 k 1 _ (hp.drewN _) (flts_one _) (by omega) (by omega) (by omega) (by omega)).mono ?_
        rintro e w5 ⟨pc, gc, cc, rfl, hc5, m1, m2, b5⟩
        rw [HROW.out] at hc5
        have b5' : Below wr.heap.size wr w5 := ⟨b5.os, b5.tape, b5.output, b5.size, b5.block⟩
        have hp5 := hp.below b5'
        have hq5 := hq.below b5'
        have hsl5 := hsl4.below b5'
        have a5 := below_then a4 b5'
        go_wp2_with fail
        refine (PF.same_any pc gc k 1 cc p g k 1 cp zs zs _ hc5 hp5).mono ?_
        rintro e w' ⟨rfl, q4, rfl⟩
        rw [show PF.sameB k 1 k 1 zs zs = wh by unfold PF.sameB; rw [HWL.out]; simp]
        cases wh with
        | true =>
          go_wp2_with fail
          refine (PF.same_any p g k 1 cp p g k 1 cp zs zs _ (hp5.drewN _) (hp5.drewN _)).mono ?_
          rintro e w' ⟨rfl, q5, rfl⟩
          rw [show PF.sameB k 1 k 1 zs zs = true by unfold PF.sameB; rw [HWL.out]; simp]
          go_wp2_with fail
          refine (PF.same_any pq gq 1 k cq p g k 1 cp zs zs _ (hq5.drewN _) (hp5.drewN _)).mono ?_
          rintro e w' ⟨rfl, q6, rfl⟩
          by_cases hk1 : k = 1
          · have hk2 : ¬ 1 < k := by omega
            have hk3 : (PF.sameB 1 k k 1 zs zs) = true := by rw [hk1]; unfold PF.sameB; rw [HWL.out]; simp
            rw [hk3]
            clear hk3 hk1
            go_wp2_with fail
            refine (PF.pix_any pc gc k 1 cc _ _ (hc5.drewN _) (flts_one _)).mono ?_
            rintro e w6 ⟨v, rfl, ⟨gl, cl, curl, rfl, i1, i2, i3, i4, i5, i6⟩, b6⟩
            have sl6 : Sl w6 (some ⟨gl, 0, none⟩) k (zs.map (.float .f32)) := Sl.of_blk i1 (by rw [← i3, Nat.mul_one]) (by omega)
            have b6' : Below w5.heap.size w5 w6 := ⟨b6.os, b6.tape, b6.output, b6.size, b6.block⟩
            have hq6 := hq5.below b6'
            have hsl6 := hsl5.below b6'
            rw [Nat.mul_one] at i4 ⊢
            go_wp2_with fail
            refine (PF.pix_any pq gq 1 k cq _ _ hq6 (flts_one _)).mono ?_
            rintro e w7 ⟨v, rfl, ⟨gm, cm, curm, rfl, j1, j2, j3, j4, j5, j6⟩, b7⟩
            have sm7 : Sl w7 (some ⟨gm, 0, none⟩) k (zs.map (.float .f32)) := Sl.of_blk j1 (by rw [← j3, Nat.one_mul]) (by omega)
            have sl7 := sl6.below b7
            have hsl7 := hsl6.below b7
            have a7 := below_then (below_then a5 b6') b7
            rw [Nat.one_mul] at j4 ⊢
            go_wp2_with fail
            go_loopw [22] (fun i wr => ∃ j q : Nat, j ≤ k ∧ i = .int .i64 j ∧ wr = w7.drewN q) (fun i _ => k - (intOf i).toNat)
            case atStart => exact ⟨0, 0, Nat.zero_le _, rfl, rfl⟩
            case round =>
              obtain ⟨j, q, hj, rfl, rfl⟩ := hrel
              by_cases hjl : j < k
              · have d1 := sl_flt (sl7.drewN q) hjl
                have d2 := sl_flt (sm7.drewN q) hjl
                have d3 := sl_flt (hsl7.drewN q) hjl
                rw [Nat.zero_add] at d1 d2
                obtain ⟨z, hzz⟩ : ∃ z, zs.getD j 0 = z := ⟨_, rfl⟩
                rw [hzz] at d1 d2 d3
                clear hzz
                go_upto_region 36 with fail
                refine Lex3.wp_region_lex [47] (fun u' => u'.cell? ⟨gl, j, none⟩ = some (.float .f32 z) ∧ u'.cell? ⟨gm, j, none⟩ = some (.float .f32 z) ∧ u'.cell? ⟨b0, o0 + j, none⟩ = some (.float .f32 z)) (fun u n h => h) ⟨d1, d2, d3⟩ (by kernel_rfl) (by kernel_rfl) ?_
                refine Lex3.run_free (v := ?_) (by rfl) (by rfl) (fun u => ?_) ?_; rotate_left; (go_simp; try with_reducible rfl); simp only [Act.put, List.setIfInBounds_toArray, List.set_cons_zero, List.set_cons_succ]
                refine Lex3.run_free (v := ?_) (by rfl) (by rfl) (fun u => ?_) ?_; rotate_left; (go_simp; try with_reducible rfl); simp only [Act.put, List.setIfInBounds_toArray, List.set_cons_zero, List.set_cons_succ]
                refine Lex3.run_free (v := ?_) (by rfl) (by rfl) (fun u => ?_) ?_; rotate_left; (go_simp; try with_reducible rfl); simp only [Act.put, List.setIfInBounds_toArray, List.set_cons_zero, List.set_cons_succ]
                refine Lex3.run_load (v := ?_) (by rfl) (by rfl) (fun u hu => ?_) ?_; rotate_left; (obtain ⟨hu0, hu1, hu2⟩ := hu; go_simp; try with_reducible rfl); simp only [Act.put, List.setIfInBounds_toArray, List.set_cons_zero, List.set_cons_succ]
                refine Lex3.run_free (v := ?_) (by rfl) (by rfl) (fun u => ?_) ?_; rotate_left; (go_simp; try with_reducible rfl); simp only [Act.put, List.setIfInBounds_toArray, List.set_cons_zero, List.set_cons_succ]
                refine Lex3.run_free (v := ?_) (by rfl) (by rfl) (fun u => ?_) ?_; rotate_left; (go_simp; try with_reducible rfl); simp only [Act.put, List.setIfInBounds_toArray, List.set_cons_zero, List.set_cons_succ]
                refine Lex3.run_free (v := ?_) (by rfl) (by rfl) (fun u => ?_) ?_; rotate_left; (go_simp; try with_reducible rfl); simp only [Act.put, List.setIfInBounds_toArray, List.set_cons_zero, List.set_cons_succ]
                refine Lex3.run_load (v := ?_) (by rfl) (by rfl) (fun u hu => ?_) ?_; rotate_left; (obtain ⟨hu0, hu1, hu2⟩ := hu; go_simp; try with_reducible rfl); simp only [Act.put, List.setIfInBounds_toArray, List.set_cons_zero, List.set_cons_succ]
                refine Lex3.run_call (v := .bool true) (f := 47) (args := #[.float .f32 z, .float .f32 z]) (by rfl) (by rfl) (fun n => ?_) (fun n => alike_any z _) ?_
                · go_simp
                simp only [Act.put, List.setIfInBounds_toArray, List.set_cons_zero, List.set_cons_succ]
                refine Lex3.run_free (v := ?_) (by rfl) (by rfl) (fun u => ?_) ?_; rotate_left; (go_simp; try with_reducible rfl); simp only [Act.put, List.setIfInBounds_toArray, List.set_cons_zero, List.set_cons_succ]
                refine Lex3.run_free (v := ?_) (by rfl) (by rfl) (fun u => ?_) ?_; rotate_left; (go_simp; try with_reducible rfl); simp only [Act.put, List.setIfInBounds_toArray, List.set_cons_zero, List.set_cons_succ]
                refine Lex3.run_free (v := ?_) (by rfl) (by kernel_rfl) (fun u => ?_) ?_; rotate_left; (go_simp; try with_reducible rfl); simp only [Act.put, List.setIfInBounds_toArray, List.set_cons_zero, List.set_cons_succ]
                refine Lex3.run_free (v := ?_) (by rfl) (by kernel_rfl) (fun u => ?_) ?_; rotate_left; (go_simp; try with_reducible rfl); simp only [Act.put, List.setIfInBounds_toArray, List.set_cons_zero, List.set_cons_succ]
                refine Lex3.run_free (v := ?_) (by rfl) (by kernel_rfl) (fun u => ?_) ?_; rotate_left; (go_simp; try with_reducible rfl); simp only [Act.put, List.setIfInBounds_toArray, List.set_cons_zero, List.set_cons_succ]
                refine Lex3.run_load (v := ?_) (by rfl) (by kernel_rfl) (fun u hu => ?_) ?_; rotate_left; (obtain ⟨hu0, hu1, hu2⟩ := hu; go_simp; try with_reducible rfl); simp only [Act.put, List.setIfInBounds_toArray, List.set_cons_zero, List.set_cons_succ]
                refine Lex3.run_free (v := ?_) (by rfl) (by kernel_rfl) (fun u => ?_) ?_; rotate_left; (go_simp; try with_reducible rfl); simp only [Act.put, List.setIfInBounds_toArray, List.set_cons_zero, List.set_cons_succ]
                refine Lex3.run_free (v := ?_) (by rfl) (by kernel_rfl) (fun u => ?_) ?_; rotate_left; (go_simp; try with_reducible rfl); simp only [Act.put, List.setIfInBounds_toArray, List.set_cons_zero, List.set_cons_succ]
                refine Lex3.run_free (v := ?_) (by rfl) (by kernel_rfl) (fun u => ?_) ?_; rotate_left; (go_simp; try with_reducible rfl); simp only [Act.put, List.setIfInBounds_toArray, List.set_cons_zero, List.set_cons_succ]
                refine Lex3.run_load (v := ?_) (by rfl) (by kernel_rfl) (fun u hu => ?_) ?_; rotate_left; (obtain ⟨hu0, hu1, hu2⟩ := hu; go_simp; try with_reducible rfl); simp only [Act.put, List.setIfInBounds_toArray, List.set_cons_zero, List.set_cons_succ]
                refine Lex3.run_call (v := .bool true) (f := 47) (args := #[.float .f32 z, .float .f32 z]) (by rfl) (by kernel_rfl) (fun n => ?_) (fun n => alike_any z _) ?_
                · go_simp
                simp only [Act.put, List.setIfInBounds_toArray, List.set_cons_zero, List.set_cons_succ]
                refine Lex3.run_free (v := ?_) (by rfl) (by kernel_rfl) (fun u => ?_) ?_; rotate_left; (go_simp; try with_reducible rfl); simp only [Act.put, List.setIfInBounds_toArray, List.set_cons_zero, List.set_cons_succ]
                refine Lex3.run_free (v := ?_) (by rfl) (by rfl) (fun u => ?_) ?_; rotate_left; (go_simp; try with_reducible rfl); simp only [Act.put, List.setIfInBounds_toArray, List.set_cons_zero, List.set_cons_succ]
                refine Lex3.run_nil (fun n3 => ?_)
                go_wp2_with fail
                go_roundw
                case rel => exact ⟨j + 1, q + 1 + n3, by omega, by go_num, by simp [Nat.add_assoc]⟩
                case measure => simp [intOf]; omega
              · go_wp2_with fail
                go_ret
                exact ⟨rfl, below_drewN a7 _⟩
          · rw [sameB_diff hk1]
            go_wp2_with fail
            refine (PF.pix_any pc gc k 1 cc _ _ (hc5.drewN _) (flts_one _)).mono ?_
            rintro e w6 ⟨v, rfl, ⟨gl, cl, curl, rfl, i1, i2, i3, i4, i5, i6⟩, b6⟩
            have sl6 : Sl w6 (some ⟨gl, 0, none⟩) k (zs.map (.float .f32)) := Sl.of_blk i1 (by rw [← i3, Nat.mul_one]) (by omega)
            have b6' : Below w5.heap.size w5 w6 := ⟨b6.os, b6.tape, b6.output, b6.size, b6.block⟩
            have hq6 := hq5.below b6'
            have hsl6 := hsl5.below b6'
            rw [Nat.mul_one] at i4 ⊢
            go_wp2_with fail
            refine (PF.pix_any pq gq 1 k cq _ _ hq6 (flts_one _)).mono ?_
            rintro e w7 ⟨v, rfl, ⟨gm, cm, curm, rfl, j1, j2, j3, j4, j5, j6⟩, b7⟩
            have sm7 : Sl w7 (some ⟨gm, 0, none⟩) k (zs.map (.float .f32)) := Sl.of_blk j1 (by rw [← j3, Nat.one_mul]) (by omega)
            have sl7 := sl6.below b7
            have hsl7 := hsl6.below b7
            have a7 := below_then (below_then a5 b6') b7
            rw [Nat.one_mul] at j4 ⊢
            go_wp2_with fail
            go_loopw [22] (fun i wr => ∃ j q : Nat, j ≤ k ∧ i = .int .i64 j ∧ wr = w7.drewN q) (fun i _ => k - (intOf i).toNat)
            case atStart => exact ⟨0, 0, Nat.zero_le _, rfl, rfl⟩
            case round =>
              obtain ⟨j, q, hj, rfl, rfl⟩ := hrel
              by_cases hjl : j < k
              · have d1 := sl_flt (sl7.drewN q) hjl
                have d2 := sl_flt (sm7.drewN q) hjl
                have d3 := sl_flt (hsl7.drewN q) hjl
                rw [Nat.zero_add] at d1 d2
                obtain ⟨z, hzz⟩ : ∃ z, zs.getD j 0 = z := ⟨_, rfl⟩
                rw [hzz] at d1 d2 d3
                clear hzz
                go_upto_region 36 with fail
                refine Lex3.wp_region_lex [47] (fun u' => u'.cell? ⟨gl, j, none⟩ = some (.float .f32 z) ∧ u'.cell? ⟨gm, j, none⟩ = some (.float .f32 z) ∧ u'.cell? ⟨b0, o0 + j, none⟩ = some (.float .f32 z)) (fun u n h => h) ⟨d1, d2, d3⟩ (by kernel_rfl) (by kernel_rfl) ?_
                refine Lex3.run_free (v := ?_) (by rfl) (by rfl) (fun u => ?_) ?_; rotate_left; (go_simp; try with_reducible rfl); simp only [Act.put, List.setIfInBounds_toArray, List.set_cons_zero, List.set_cons_succ]
                refine Lex3.run_free (v := ?_) (by rfl) (by rfl) (fun u => ?_) ?_; rotate_left; (go_simp; try with_reducible rfl); simp only [Act.put, List.setIfInBounds_toArray, List.set_cons_zero, List.set_cons_succ]
                refine Lex3.run_free (v := ?_) (by rfl) (by rfl) (fun u => ?_) ?_; rotate_left; (go_simp; try with_reducible rfl); simp only [Act.put, List.setIfInBounds_toArray, List.set_cons_zero, List.set_cons_succ]
                refine Lex3.run_load (v := ?_) (by rfl) (by rfl) (fun u hu => ?_) ?_; rotate_left; (obtain ⟨hu0, hu1, hu2⟩ := hu; go_simp; try with_reducible rfl); simp only [Act.put, List.setIfInBounds_toArray, List.set_cons_zero, List.set_cons_succ]
                refine Lex3.run_free (v := ?_) (by rfl) (by rfl) (fun u => ?_) ?_; rotate_left; (go_simp; try with_reducible rfl); simp only [Act.put, List.setIfInBounds_toArray, List.set_cons_zero, List.set_cons_succ]
                refine Lex3.run_free (v := ?_) (by rfl) (by rfl) (fun u => ?_) ?_; rotate_left; (go_simp; try with_reducible rfl); simp only [Act.put, List.setIfInBounds_toArray, List.set_cons_zero, List.set_cons_succ]
                refine Lex3.run_free (v := ?_) (by rfl) (by rfl) (fun u => ?_) ?_; rotate_left; (go_simp; try with_reducible rfl); simp only [Act.put, List.setIfInBounds_toArray, List.set_cons_zero, List.set_cons_succ]
                refine Lex3.run_load (v := ?_) (by rfl) (by rfl) (fun u hu => ?_) ?_; rotate_left; (obtain ⟨hu0, hu1, hu2⟩ := hu; go_simp; try with_reducible rfl); simp only [Act.put, List.setIfInBounds_toArray, List.set_cons_zero, List.set_cons_succ]
                refine Lex3.run_call (v := .bool true) (f := 47) (args := #[.float .f32 z, .float .f32 z]) (by rfl) (by rfl) (fun n => ?_) (fun n => alike_any z _) ?_
                · go_simp
                simp only [Act.put, List.setIfInBounds_toArray, List.set_cons_zero, List.set_cons_succ]
                refine Lex3.run_free (v := ?_) (by rfl) (by rfl) (fun u => ?_) ?_; rotate_left; (go_simp; try with_reducible rfl); simp only [Act.put, List.setIfInBounds_toArray, List.set_cons_zero, List.set_cons_succ]
                refine Lex3.run_free (v := ?_) (by rfl) (by rfl) (fun u => ?_) ?_; rotate_left; (go_simp; try with_reducible rfl); simp only [Act.put, List.setIfInBounds_toArray, List.set_cons_zero, List.set_cons_succ]
                refine Lex3.run_free (v := ?_) (by rfl) (by kernel_rfl) (fun u => ?_) ?_; rotate_left; (go_simp; try with_reducible rfl); simp only [Act.put, List.setIfInBounds_toArray, List.set_cons_zero, List.set_cons_succ]
                refine Lex3.run_free (v := ?_) (by rfl) (by kernel_rfl) (fun u => ?_) ?_; rotate_left; (go_simp; try with_reducible rfl); simp only [Act.put, List.setIfInBounds_toArray, List.set_cons_zero, List.set_cons_succ]
                refine Lex3.run_free (v := ?_) (by rfl) (by kernel_rfl) (fun u => ?_) ?_; rotate_left; (go_simp; try with_reducible rfl); simp only [Act.put, List.setIfInBounds_toArray, List.set_cons_zero, List.set_cons_succ]
                refine Lex3.run_load (v := ?_) (by rfl) (by kernel_rfl) (fun u hu => ?_) ?_; rotate_left; (obtain ⟨hu0, hu1, hu2⟩ := hu; go_simp; try with_reducible rfl); simp only [Act.put, List.setIfInBounds_toArray, List.set_cons_zero, List.set_cons_succ]
                refine Lex3.run_free (v := ?_) (by rfl) (by kernel_rfl) (fun u => ?_) ?_; rotate_left; (go_simp; try with_reducible rfl); simp only [Act.put, List.setIfInBounds_toArray, List.set_cons_zero, List.set_cons_succ]
                refine Lex3.run_free (v := ?_) (by rfl) (by kernel_rfl) (fun u => ?_) ?_; rotate_left; (go_simp; try with_reducible rfl); simp only [Act.put, List.setIfInBounds_toArray, List.set_cons_zero, List.set_cons_succ]
                refine Lex3.run_free (v := ?_) (by rfl) (by kernel_rfl) (fun u => ?_) ?_; rotate_left; (go_simp; try with_reducible rfl); simp only [Act.put, List.setIfInBounds_toArray, List.set_cons_zero, List.set_cons_succ]
                refine Lex3.run_load (v := ?_) (by rfl) (by kernel_rfl) (fun u hu => ?_) ?_; rotate_left; (obtain ⟨hu0, hu1, hu2⟩ := hu; go_simp; try with_reducible rfl); simp only [Act.put, List.setIfInBounds_toArray, List.set_cons_zero, List.set_cons_succ]
                refine Lex3.run_call (v := .bool true) (f := 47) (args := #[.float .f32 z, .float .f32 z]) (by rfl) (by kernel_rfl) (fun n => ?_) (fun n => alike_any z _) ?_
                · go_simp
                simp only [Act.put, List.setIfInBounds_toArray, List.set_cons_zero, List.set_cons_succ]
                refine Lex3.run_free (v := ?_) (by rfl) (by kernel_rfl) (fun u => ?_) ?_; rotate_left; (go_simp; try with_reducible rfl); simp only [Act.put, List.setIfInBounds_toArray, List.set_cons_zero, List.set_cons_succ]
                refine Lex3.run_free (v := ?_) (by rfl) (by rfl) (fun u => ?_) ?_; rotate_left; (go_simp; try with_reducible rfl); simp only [Act.put, List.setIfInBounds_toArray, List.set_cons_zero, List.set_cons_succ]
                refine Lex3.run_nil (fun n3 => ?_)
                go_wp2_with fail
                go_roundw
                case rel => exact ⟨j + 1, q + 1 + n3, by omega, by go_num, by simp [Nat.add_assoc]⟩
                case measure => simp [intOf]; omega
              · go_wp2_with fail
                go_ret
                exact ⟨rfl, below_drewN a7 _⟩
        | false =>
          go_wp2_with fail
          refine (PF.same_any p g k 1 cp p g k 1 cp zs zs _ (hp5.drewN _) (hp5.drewN _)).mono ?_
          rintro e w' ⟨rfl, q5, rfl⟩
          rw [show PF.sameB k 1 k 1 zs zs = false by unfold PF.sameB; rw [HWL.out]; simp]
          go_wp2_with fail
          refine (PF.same_any pq gq 1 k cq p g k 1 cp zs zs _ (hq5.drewN _) (hp5.drewN _)).mono ?_
          rintro e w' ⟨rfl, q6, rfl⟩
          by_cases hk1 : k = 1
          · have hk2 : ¬ 1 < k := by omega
            have hk3 : (PF.sameB 1 k k 1 zs zs) = false := by rw [hk1]; unfold PF.sameB; rw [HWL.out]; simp
            rw [hk3]
            clear hk3 hk1
            go_wp2_with fail
            refine (PF.pix_any pc gc k 1 cc _ _ (hc5.drewN _) (flts_one _)).mono ?_
            rintro e w6 ⟨v, rfl, ⟨gl, cl, curl, rfl, i1, i2, i3, i4, i5, i6⟩, b6⟩
            have sl6 : Sl w6 (some ⟨gl, 0, none⟩) k (zs.map (.float .f32)) := Sl.of_blk i1 (by rw [← i3, Nat.mul_one]) (by omega)
            have b6' : Below w5.heap.size w5 w6 := ⟨b6.os, b6.tape, b6.output, b6.size, b6.block⟩
            have hq6 := hq5.below b6'
            have hsl6 := hsl5.below b6'
            rw [Nat.mul_one] at i4 ⊢
            go_wp2_with fail
            refine (PF.pix_any pq gq 1 k cq _ _ hq6 (flts_one _)).mono ?_
            rintro e w7 ⟨v, rfl, ⟨gm, cm, curm, rfl, j1, j2, j3, j4, j5, j6⟩, b7⟩
            have sm7 : Sl w7 (some ⟨gm, 0, none⟩) k (zs.map (.float .f32)) := Sl.of_blk j1 (by rw [← j3, Nat.one_mul]) (by omega)
            have sl7 := sl6.below b7
            have hsl7 := hsl6.below b7
            have a7 := below_then (below_then a5 b6') b7
            rw [Nat.one_mul] at j4 ⊢
            go_wp2_with fail
            go_loopw [22] (fun i wr => ∃ j q : Nat, j ≤ k ∧ i = .int .i64 j ∧ wr = w7.drewN q) (fun i _ => k - (intOf i).toNat)
            case atStart => exact ⟨0, 0, Nat.zero_le _, rfl, rfl⟩
            case round =>
              obtain ⟨j, q, hj, rfl, rfl⟩ := hrel
              by_cases hjl : j < k
              · have d1 := sl_flt (sl7.drewN q) hjl
                have d2 := sl_flt (sm7.drewN q) hjl
                have d3 := sl_flt (hsl7.drewN q) hjl
                rw [Nat.zero_add] at d1 d2
                obtain ⟨z, hzz⟩ : ∃ z, zs.getD j 0 = z := ⟨_, rfl⟩
                rw [hzz] at d1 d2 d3
                clear hzz
                go_upto_region 36 with fail
                refine Lex3.wp_region_lex [47] (fun u' => u'.cell? ⟨gl, j, none⟩ = some (.float .f32 z) ∧ u'.cell? ⟨gm, j, none⟩ = some (.float .f32 z) ∧ u'.cell? ⟨b0, o0 + j, none⟩ = some (.float .f32 z)) (fun u n h => h) ⟨d1, d2, d3⟩ (by kernel_rfl) (by kernel_rfl) ?_
                refine Lex3.run_free (v := ?_) (by rfl) (by rfl) (fun u => ?_) ?_; rotate_left; (go_simp; try with_reducible rfl); simp only [Act.put, List.setIfInBounds_toArray, List.set_cons_zero, List.set_cons_succ]
                refine Lex3.run_free (v := ?_) (by rfl) (by rfl) (fun u => ?_) ?_; rotate_left; (go_simp; try with_reducible rfl); simp only [Act.put, List.setIfInBounds_toArray, List.set_cons_zero, List.set_cons_succ]
                refine Lex3.run_free (v := ?_) (by rfl) (by rfl) (fun u => ?_) ?_; rotate_left; (go_simp; try with_reducible rfl); simp only [Act.put, List.setIfInBounds_toArray, List.set_cons_zero, List.set_cons_succ]
                refine Lex3.run_load (v := ?_) (by rfl) (by rfl) (fun u hu => ?_) ?_; rotate_left; (obtain ⟨hu0, hu1, hu2⟩ := hu; go_simp; try with_reducible rfl); simp only [Act.put, List.setIfInBounds_toArray, List.set_cons_zero, List.set_cons_succ]
                refine Lex3.run_free (v := ?_) (by rfl) (by rfl) (fun u => ?_) ?_; rotate_left; (go_simp; try with_reducible rfl); simp only [Act.put, List.setIfInBounds_toArray, List.set_cons_zero, List.set_cons_succ]
                refine Lex3.run_free (v := ?_) (by rfl) (by rfl) (fun u => ?_) ?_; rotate_left; (go_simp; try with_reducible rfl); simp only [Act.put, List.setIfInBounds_toArray, List.set_cons_zero, List.set_cons_succ]
                refine Lex3.run_free (v := ?_) (by rfl) (by rfl) (fun u => ?_) ?_; rotate_left; (go_simp; try with_reducible rfl); simp only [Act.put, List.setIfInBounds_toArray, List.set_cons_zero, List.set_cons_succ]
                refine Lex3.run_load (v := ?_) (by rfl) (by rfl) (fun u hu => ?_) ?_; rotate_left; (obtain ⟨hu0, hu1, hu2⟩ := hu; go_simp; try with_reducible rfl); simp only [Act.put, List.setIfInBounds_toArray, List.set_cons_zero, List.set_cons_succ]
                refine Lex3.run_call (v := .bool true) (f := 47) (args := #[.float .f32 z, .float .f32 z]) (by rfl) (by rfl) (fun n => ?_) (fun n => alike_any z _) ?_
                · go_simp
                simp only [Act.put, List.setIfInBounds_toArray, List.set_cons_zero, List.set_cons_succ]
                refine Lex3.run_free (v := ?_) (by rfl) (by rfl) (fun u => ?_) ?_; rotate_left; (go_simp; try with_reducible rfl); simp only [Act.put, List.setIfInBounds_toArray, List.set_cons_zero, List.set_cons_succ]
                refine Lex3.run_free (v := ?_) (by rfl) (by rfl) (fun u => ?_) ?_; rotate_left; (go_simp; try with_reducible rfl); simp only [Act.put, List.setIfInBounds_toArray, List.set_cons_zero, List.set_cons_succ]
                refine Lex3.run_free (v := ?_) (by rfl) (by kernel_rfl) (fun u => ?_) ?_; rotate_left; (go_simp; try with_reducible rfl); simp only [Act.put, List.setIfInBounds_toArray, List.set_cons_zero, List.set_cons_succ]
                refine Lex3.run_free (v := ?_) (by rfl) (by kernel_rfl) (fun u => ?_) ?_; rotate_left; (go_simp; try with_reducible rfl); simp only [Act.put, List.setIfInBounds_toArray, List.set_cons_zero, List.set_cons_succ]
                refine Lex3.run_free (v := ?_) (by rfl) (by kernel_rfl) (fun u => ?_) ?_; rotate_left; (go_simp; try with_reducible rfl); simp only [Act.put, List.setIfInBounds_toArray, List.set_cons_zero, List.set_cons_succ]
                refine Lex3.run_load (v := ?_) (by rfl) (by kernel_rfl) (fun u hu => ?_) ?_; rotate_left; (obtain ⟨hu0, hu1, hu2⟩ := hu; go_simp; try with_reducible rfl); simp only [Act.put, List.setIfInBounds_toArray, List.set_cons_zero, List.set_cons_succ]
                refine Lex3.run_free (v := ?_) (by rfl) (by kernel_rfl) (fun u => ?_) ?_; rotate_left; (go_simp; try with_reducible rfl); simp only [Act.put, List.setIfInBounds_toArray, List.set_cons_zero, List.set_cons_succ]
                refine Lex3.run_free (v := ?_) (by rfl) (by kernel_rfl) (fun u => ?_) ?_; rotate_left; (go_simp; try with_reducible rfl); simp only [Act.put, List.setIfInBounds_toArray, List.set_cons_zero, List.set_cons_succ]
                refine Lex3.run_free (v := ?_) (by rfl) (by kernel_rfl) (fun u => ?_) ?_; rotate_left; (go_simp; try with_reducible rfl); simp only [Act.put, List.setIfInBounds_toArray, List.set_cons_zero, List.set_cons_succ]
                refine Lex3.run_load (v := ?_) (by rfl) (by kernel_rfl) (fun u hu => ?_) ?_; rotate_left; (obtain ⟨hu0, hu1, hu2⟩ := hu; go_simp; try with_reducible rfl); simp only [Act.put, List.setIfInBounds_toArray, List.set_cons_zero, List.set_cons_succ]
                refine Lex3.run_call (v := .bool true) (f := 47) (args := #[.float .f32 z, .float .f32 z]) (by rfl) (by kernel_rfl) (fun n => ?_) (fun n => alike_any z _) ?_
                · go_simp
                simp only [Act.put, List.setIfInBounds_toArray, List.set_cons_zero, List.set_cons_succ]
                refine Lex3.run_free (v := ?_) (by rfl) (by kernel_rfl) (fun u => ?_) ?_; rotate_left; (go_simp; try with_reducible rfl); simp only [Act.put, List.setIfInBounds_toArray, List.set_cons_zero, List.set_cons_succ]
                refine Lex3.run_free (v := ?_) (by rfl) (by rfl) (fun u => ?_) ?_; rotate_left; (go_simp; try with_reducible rfl); simp only [Act.put, List.setIfInBounds_toArray, List.set_cons_zero, List.set_cons_succ]
                refine Lex3.run_nil (fun n3 => ?_)
                go_wp2_with fail
                go_roundw
                case rel => exact ⟨j + 1, q + 1 + n3, by omega, by go_num, by simp [Nat.add_assoc]⟩
                case measure => simp [intOf]; omega
              · go_wp2_with fail
                go_ret
                exact ⟨rfl, below_drewN a7 _⟩
          · rw [sameB_diff hk1]
            go_wp2_with fail
            refine (PF.pix_any pc gc k 1 cc _ _ (hc5.drewN _) (flts_one _)).mono ?_
            rintro e w6 ⟨v, rfl, ⟨gl, cl, curl, rfl, i1, i2, i3, i4, i5, i6⟩, b6⟩
            have sl6 : Sl w6 (some ⟨gl, 0, none⟩) k (zs.map (.float .f32)) := Sl.of_blk i1 (by rw [← i3, Nat.mul_one]) (by omega)
            have b6' : Below w5.heap.size w5 w6 := ⟨b6.os, b6.tape, b6.output, b6.size, b6.block⟩
            have hq6 := hq5.below b6'
            have hsl6 := hsl5.below b6'
            rw [Nat.mul_one] at i4 ⊢
            go_wp2_with fail
            refine (PF.pix_any pq gq 1 k cq _ _ hq6 (flts_one _)).mono ?_
            rintro e w7 ⟨v, rfl, ⟨gm, cm, curm, rfl, j1, j2, j3, j4, j5, j6⟩, b7⟩
            have sm7 : Sl w7 (some ⟨gm, 0, none⟩) k (zs.map (.float .f32)) := Sl.of_blk j1 (by rw [← j3, Nat.one_mul]) (by omega)
            have sl7 := sl6.below b7
            have hsl7 := hsl6.below b7
            have a7 := below_then (below_then a5 b6') b7
            rw [Nat.one_mul] at j4 ⊢
            go_wp2_with fail
            go_loopw [22] (fun i wr => ∃ j q : Nat, j ≤ k ∧ i = .int .i64 j ∧ wr = w7.drewN q) (fun i _ => k - (intOf i).toNat)
            case atStart => exact ⟨0, 0, Nat.zero_le _, rfl, rfl⟩
            case round =>
              obtain ⟨j, q, hj, rfl, rfl⟩ := hrel
              by_cases hjl : j < k
              · have d1 := sl_flt (sl7.drewN q) hjl
                have d2 := sl_flt (sm7.drewN q) hjl
                have d3 := sl_flt (hsl7.drewN q) hjl
                rw [Nat.zero_add] at d1 d2
                obtain ⟨z, hzz⟩ : ∃ z, zs.getD j 0 = z := ⟨_, rfl⟩
                rw [hzz] at d1 d2 d3
                clear hzz
                go_upto_region 36 with fail
                refine Lex3.wp_region_lex [47] (fun u' => u'.cell? ⟨gl, j, none⟩ = some (.float .f32 z) ∧ u'.cell? ⟨gm, j, none⟩ = some (.float .f32 z) ∧ u'.cell? ⟨b0, o0 + j, none⟩ = some (.float .f32 z)) (fun u n h => h) ⟨d1, d2, d3⟩ (by kernel_rfl) (by kernel_rfl) ?_
                refine Lex3.run_free (v := ?_) (by rfl) (by rfl) (fun u => ?_) ?_; rotate_left; (go_simp; try with_reducible rfl); simp only [Act.put, List.setIfInBounds_toArray, List.set_cons_zero, List.set_cons_succ]
                refine Lex3.run_free (v := ?_) (by rfl) (by rfl) (fun u => ?_) ?_; rotate_left; (go_simp; try with_reducible rfl); simp only [Act.put, List.setIfInBounds_toArray, List.set_cons_zero, List.set_cons_succ]
                refine Lex3.run_free (v := ?_) (by rfl) (by rfl) (fun u => ?_) ?_; rotate_left; (go_simp; try with_reducible rfl); simp only [Act.put, List.setIfInBounds_toArray, List.set_cons_zero, List.set_cons_succ]
                refine Lex3.run_load (v := ?_) (by rfl) (by rfl) (fun u hu => ?_) ?_; rotate_left; (obtain ⟨hu0, hu1, hu2⟩ := hu; go_simp; try with_reducible rfl); simp only [Act.put, List.setIfInBounds_toArray, List.set_cons_zero, List.set_cons_succ]
                refine Lex3.run_free (v := ?_) (by rfl) (by rfl) (fun u => ?_) ?_; rotate_left; (go_simp; try with_reducible rfl); simp only [Act.put, List.setIfInBounds_toArray, List.set_cons_zero, List.set_cons_succ]
                refine Lex3.run_free (v := ?_) (by rfl) (by rfl) (fun u => ?_) ?_; rotate_left; (go_simp; try with_reducible rfl); simp only [Act.put, List.setIfInBounds_toArray, List.set_cons_zero, List.set_cons_succ]
                refine Lex3.run_free (v := ?_) (by rfl) (by rfl) (fun u => ?_) ?_; rotate_left; (go_simp; try with_reducible rfl); simp only [Act.put, List.setIfInBounds_toArray, List.set_cons_zero, List.set_cons_succ]
                refine Lex3.run_load (v := ?_) (by rfl) (by rfl) (fun u hu => ?_) ?_; rotate_left; (obtain ⟨hu0, hu1, hu2⟩ := hu; go_simp; try with_reducible rfl); simp only [Act.put, List.setIfInBounds_toArray, List.set_cons_zero, List.set_cons_succ]
                refine Lex3.run_call (v := .bool true) (f := 47) (args := #[.float .f32 z, .float .f32 z]) (by rfl) (by rfl) (fun n => ?_) (fun n => alike_any z _) ?_
                · go_simp
                simp only [Act.put, List.setIfInBounds_toArray, List.set_cons_zero, List.set_cons_succ]
                refine Lex3.run_free (v := ?_) (by rfl) (by rfl) (fun u => ?_) ?_; rotate_left; (go_simp; try with_reducible rfl); simp only [Act.put, List.setIfInBounds_toArray, List.set_cons_zero, List.set_cons_succ]
                refine Lex3.run_free (v := ?_) (by rfl) (by rfl) (fun u => ?_) ?_; rotate_left; (go_simp; try with_reducible rfl); simp only [Act.put, List.setIfInBounds_toArray, List.set_cons_zero, List.set_cons_succ]
                refine Lex3.run_free (v := ?_) (by rfl) (by kernel_rfl) (fun u => ?_) ?_; rotate_left; (go_simp; try with_reducible rfl); simp only [Act.put, List.setIfInBounds_toArray, List.set_cons_zero, List.set_cons_succ]
                refine Lex3.run_free (v := ?_) (by rfl) (by kernel_rfl) (fun u => ?_) ?_; rotate_left; (go_simp; try with_reducible rfl); simp only [Act.put, List.setIfInBounds_toArray, List.set_cons_zero, List.set_cons_succ]
                refine Lex3.run_free (v := ?_) (by rfl) (by kernel_rfl) (fun u => ?_) ?_; rotate_left; (go_simp; try with_reducible rfl); simp only [Act.put, List.setIfInBounds_toArray, List.set_cons_zero, List.set_cons_succ]
                refine Lex3.run_load (v := ?_) (by rfl) (by kernel_rfl) (fun u hu => ?_) ?_; rotate_left; (obtain ⟨hu0, hu1, hu2⟩ := hu; go_simp; try with_reducible rfl); simp only [Act.put, List.setIfInBounds_toArray, List.set_cons_zero, List.set_cons_succ]
                refine Lex3.run_free (v := ?_) (by rfl) (by kernel_rfl) (fun u => ?_) ?_; rotate_left; (go_simp; try with_reducible rfl); simp only [Act.put, List.setIfInBounds_toArray, List.set_cons_zero, List.set_cons_succ]
                refine Lex3.run_free (v := ?_) (by rfl) (by kernel_rfl) (fun u => ?_) ?_; rotate_left; (go_simp; try with_reducible rfl); simp only [Act.put, List.setIfInBounds_toArray, List.set_cons_zero, List.set_cons_succ]
                refine Lex3.run_free (v := ?_) (by rfl) (by kernel_rfl) (fun u => ?_) ?_; rotate_left; (go_simp; try with_reducible rfl); simp only [Act.put, List.setIfInBounds_toArray, List.set_cons_zero, List.set_cons_succ]
                refine Lex3.run_load (v := ?_) (by rfl) (by kernel_rfl) (fun u hu => ?_) ?_; rotate_left; (obtain ⟨hu0, hu1, hu2⟩ := hu; go_simp; try with_reducible rfl); simp only [Act.put, List.setIfInBounds_toArray, List.set_cons_zero, List.set_cons_succ]
                refine Lex3.run_call (v := .bool true) (f := 47) (args := #[.float .f32 z, .float .f32 z]) (by rfl) (by kernel_rfl) (fun n => ?_) (fun n => alike_any z _) ?_
                · go_simp
                simp only [Act.put, List.setIfInBounds_toArray, List.set_cons_zero, List.set_cons_succ]
                refine Lex3.run_free (v := ?_) (by rfl) (by kernel_rfl) (fun u => ?_) ?_; rotate_left; (go_simp; try with_reducible rfl); simp only [Act.put, List.setIfInBounds_toArray, List.set_cons_zero, List.set_cons_succ]
                refine Lex3.run_free (v := ?_) (by rfl) (by rfl) (fun u => ?_) ?_; rotate_left; (go_simp; try with_reducible rfl); simp only [Act.put, List.setIfInBounds_toArray, List.set_cons_zero, List.set_cons_succ]
                refine Lex3.run_nil (fun n3 => ?_)
                go_wp2_with fail
                go_roundw
                case rel => exact ⟨j + 1, q + 1 + n3, by omega, by go_num, by simp [Nat.add_assoc]⟩
                case measure => simp [intOf]; omega
              · go_wp2_with fail
                go_ret
                exact ⟨rfl, below_drewN a7 _⟩
end Go.Proofs.Ytlbocfinjlkebaa.Flts
