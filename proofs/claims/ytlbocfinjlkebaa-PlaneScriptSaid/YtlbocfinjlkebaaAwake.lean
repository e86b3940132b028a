/- What the document's examples say of planes: awake answers true. -/
import Derived.Test.YtlbocfinjlkebaaPlanePIr
import Derived.Test.YtlbocfinjlkebaaPlanePIc
import Derived.Test.YtlbocfinjlkebaaPlanePIl
namespace Go.Proofs.Ytlbocfinjlkebaa
open Go.RowKit

set_option maxRecDepth 100000 in
set_option maxHeartbeats 1000000 in
theorem same12_any (A B : Option Addr) (n m c c' : Nat) (zs ys : List Int) (w : World) (h1 : Sl w A n (zs.map (.int .i64))) (h2 : Sl w B m (ys.map (.int .i64))) (hn : n ≤ 140737488351232) (hm : m ≤ 140737488351232) :
    Calls Try.prog 34 #[.slice A n c, .slice B m c'] w fun e w' => e = .returned (.bool (PI.eqL zs ys)) ∧ ∃ k, w' = w.drewN k := by
  obtain ⟨hl1, hc1⟩ := h1
  obtain ⟨hl2, hc2⟩ := h2
  simp only [List.length_map] at hl1 hl2
  by_cases hnm : n = m
  · subst hnm
    have e0 : ((n : Int) != (n : Int)) = false := by simp
    have HL1 := Lib.hid hl1; clear hl1
    have HL2 := Lib.hid hl2; clear hl2
    go_enter Try.func34, Try.ntmps34
    go_wp2
    go_loopw [5] (fun i wr => ∃ k q : Nat, k ≤ n ∧ i = .int .i64 k ∧ wr = w.drewN q ∧ PI.eqL (zs.drop k) (ys.drop k) = PI.eqL zs ys) (fun i _ => n - (intOf i).toNat)
    case atStart => exact ⟨0, 0, Nat.zero_le _, rfl, rfl, rfl⟩
    case round =>
      obtain ⟨k, q, hk, rfl, rfl, hr⟩ := hrel
      have HR := Lib.hid hr; clear hr
      by_cases hlt : k < n
      · obtain ⟨b1, o1, rfl, hd1⟩ := hc1 (by omega)
        obtain ⟨b2, o2, rfl, hd2⟩ := hc2 (by omega)
        have g1 : k < zs.length := by rw [HL1.out]; exact hlt
        have g2 : k < ys.length := by rw [HL2.out]; exact hlt
        have d1 := PI.cell_of_map hd1 hlt g1
        have d2 := PI.cell_of_map hd2 hlt g2
        have x1 : zs.drop k = zs[k] :: zs.drop (k + 1) := List.drop_eq_getElem_cons g1
        have x2 : ys.drop k = ys[k] :: ys.drop (k + 1) := List.drop_eq_getElem_cons g2
        generalize zs[k] = a at *
        generalize ys[k] = b at *
        have X1 := Lib.hid x1; clear x1
        have X2 := Lib.hid x2; clear x2
        clear hc1 hc2 hd1 hd2
        cases hab : PI.eqE a b
        · have f1 : (a != b) = true := by simpa [PI.eqE] using hab
          have HAB := Lib.hid hab; clear hab
          go_wp2
          go_quiet (fail)
          go_wp2
          go_ret
          exact ⟨by rw [← HR.out, X1.out, X2.out, PI.eqL, HAB.out]; rfl, q + nq, by simp⟩
        · have f1 : (a != b) = false := by simpa [PI.eqE] using hab
          have HAB := Lib.hid hab; clear hab
          go_wp2
          go_quiet (fail)
          go_wp2
          go_roundw
          case rel => exact ⟨k + 1, _, by omega, by go_num, rfl, by rw [← HR.out, X1.out, X2.out, PI.eqL, HAB.out, Bool.true_and]⟩
          case measure => simp [intOf]; omega
      · have hkn : n ≤ k := by omega
        go_wp2
        go_ret
        exact ⟨by rw [← HR.out, List.drop_of_length_le (by rw [HL1.out]; exact hkn), List.drop_of_length_le (by rw [HL2.out]; exact hkn)]; rfl, _, rfl⟩
  · have e0 : ((n : Int) != (m : Int)) = true := by simp; omega
    have hf : PI.eqL zs ys = false := by
      cases h : PI.eqL zs ys
      · rfl
      · have := PI.eqL_length zs ys h
        omega
    rw [hf]
    go_enter Try.func34, Try.ntmps34
    go_wp2
    go_ret
    exact ⟨rfl, 0, rfl⟩

theorem oneI (zs : List Int) : ∀ u ∈ zs.map (Value.int .i64), u.oneCell' = true := ints_oneCell .i64 zs

def e6 : List Int := [1, 2, 3, 4, 5, 6]
def e2 : List Int := [8, 9]

/-- true comes back, and what was there is as it was -/
def TrueB (w : World) (e : Ending) (w' : World) : Prop := e = .returned (.bool true) ∧ Below w.heap.size w w'

set_option maxRecDepth 100000 in
set_option maxHeartbeats 4000000 in
theorem awake_any (w : World) : Calls Try.prog 24 #[] w (TrueB w) := by
  go_enter Try.func24, Try.ntmps24
  go_wp2_with fail
  have s1 : Sl (w.alloc (.cells #[.int .i64 1, .int .i64 2, .int .i64 3, .int .i64 4, .int .i64 5, .int .i64 6] 3)) (some ⟨w.heap.size, 0, none⟩) (3 * 2) (e6.map (.int .i64)) := Sl.of_blk (Blk.new w _ _) rfl (by decide)
  refine (show Calls Try.prog 29 #[.int .i64 3, .int .i64 2, .slice (some ⟨w.heap.size, 0, none⟩) 6 6] _ _ from PI.of_yes 3 2 w.heap.size 0 6 _ _ (by decide) s1 (oneI _)).mono ?_
  rintro e w1 ⟨p, g, c, rfl, hp, hpn, hgn, hb1⟩
  go_wp2_with fail
  have s2 : Sl (w1.alloc (.cells #[.int .i64 8, .int .i64 9] 3)) (some ⟨w1.heap.size, 0, none⟩) (2 * 1) (e2.map (.int .i64)) := Sl.of_blk (Blk.new w1 _ _) rfl (by decide)
  refine (show Calls Try.prog 29 #[.int .i64 2, .int .i64 1, .slice (some ⟨w1.heap.size, 0, none⟩) 2 2] _ _ from PI.of_yes 2 1 w1.heap.size 0 2 _ _ (by decide) s2 (oneI _)).mono ?_
  rintro e w2 ⟨o, g', c', rfl, ho, hon, hgn', hb2⟩
  have b2 : Below w1.heap.size w1 w2 := ((Below.refl _ _).alloc (Nat.le_refl _) _).trans (hb2.mono (by simp))
  have hp2 := hp.below b2
  go_wp2_with fail
  have l1 := hp.blt
  have l2 := hp.glt
  simp only [World.size_alloc] at hon hgn'
  refine (show Calls Try.prog 31 #[.pointer (some ⟨p, 0, none⟩), .pointer (some ⟨o, 0, none⟩), .int .i64 2, .int .i64 1] _ _ from PI.lay_other p g 3 2 c o g' 2 1 c' _ _ 2 1 w2 hp2 ho (by omega) (by omega) (oneI _) (by decide) (by decide) (by decide) (by decide)).mono ?_
  rintro e w3 ⟨rfl, hp3, hg3⟩
  have z3 : layL 3 2 2 1 2 1 (e6.map (.int .i64)) (e2.map (.int .i64)) = ([1, 2, 3, 4, 5, 8] : List Int).map (.int .i64) := by rfl
  rw [z3] at hp3
  go_wp2_with fail
  refine (show Calls Try.prog 31 #[.pointer (some ⟨p, 0, none⟩), .pointer (some ⟨p, 0, none⟩), .int .i64 1, .int .i64 0] _ _ from PI.lay_self p g 3 2 c _ 1 0 w3 hp3 (oneI _) (by decide) (by decide) (by decide) (by decide)).mono ?_
  rintro e w4 ⟨rfl, hp4, hg4⟩
  have z4 : layL 3 2 3 2 1 0 (([1, 2, 3, 4, 5, 8] : List Int).map (.int .i64)) (([1, 2, 3, 4, 5, 8] : List Int).map (.int .i64)) = ([1, 1, 2, 4, 4, 5] : List Int).map (.int .i64) := by rfl
  rw [z4] at hp4
  go_wp2_with fail
  refine (show Calls Try.prog 30 #[.pointer (some ⟨p, 0, none⟩), .int .i64 1, .int .i64 0, .int .i64 2, .int .i64 1] _ _ from PI.cut_yes p g 3 2 c _ 1 0 2 1 w4 hp4 (oneI _) (by decide) (by decide) (by decide) (by decide)).mono ?_
  rintro e w5 ⟨q, gq, cq, rfl, hq, hqn, hgqn, hb5⟩
  have hp5 := hp4.below hb5
  go_wp2_with fail
  refine (PI.pix_any p g 3 2 c _ _ hp5 (oneI _)).mono ?_
  rintro e w6 ⟨v, rfl, ⟨g6, c6, cur6, rfl, k1, k2, k3, k4, k5, k6⟩, hb6⟩
  go_wp2_with fail
  have t1 : Sl (w6.alloc (.cells #[.int .i64 1, .int .i64 1, .int .i64 2, .int .i64 4, .int .i64 4, .int .i64 5] 3)) (some ⟨g6, 0, none⟩) 6 (([1, 1, 2, 4, 4, 5] : List Int).map (.int .i64)) := (Sl.of_blk (n := 6) k1 k3 (by omega)).alloc _
  have t2 : Sl (w6.alloc (.cells #[.int .i64 1, .int .i64 1, .int .i64 2, .int .i64 4, .int .i64 4, .int .i64 5] 3)) (some ⟨w6.heap.size, 0, none⟩) 6 (([1, 1, 2, 4, 4, 5] : List Int).map (.int .i64)) := Sl.of_blk (Blk.new w6 _ _) rfl (by decide)
  refine (show Calls Try.prog 34 #[.slice (some ⟨g6, 0, none⟩) 6 c6, .slice (some ⟨w6.heap.size, 0, none⟩) 6 6] _ _ from same12_any _ _ _ _ _ _ _ _ _ t1 t2 (by decide) (by decide)).mono ?_
  rintro e w7 ⟨he7, n7, rfl⟩
  subst he7
  have z6 : PI.eqL ([1, 1, 2, 4, 4, 5] : List Int) ([1, 1, 2, 4, 4, 5] : List Int) = true := by rfl
  have b7 : Below w5.heap.size w5 ((w6.alloc (.cells #[.int .i64 1, .int .i64 1, .int .i64 2, .int .i64 4, .int .i64 4, .int .i64 5] 3)).drewN n7) := below_drewN (hb6.alloc hb6.size _) _
  have hq7 := hq.below b7
  have hp7 := hp5.below b7
  have z7 : PI.rowsL 3 1 0 2 (([1, 1, 2, 4, 4, 5] : List Int).map (.int .i64)) 1 = ([1, 2] : List Int).map (.int .i64) := by rfl
  rw [z7] at hq7
  go_wp2_with fail
  refine (PI.pix_any q gq 2 1 cq _ _ hq7 (oneI _)).mono ?_
  rintro e w8 ⟨v, rfl, ⟨g8, c8, cur8, rfl, i1, i2, i3, i4, i5, i6⟩, hb8⟩
  go_wp2_with fail
  have t3 : Sl (w8.alloc (.cells #[.int .i64 1, .int .i64 2] 3)) (some ⟨g8, 0, none⟩) 2 (([1, 2] : List Int).map (.int .i64)) := (Sl.of_blk (n := 2) i1 i3 (by omega)).alloc _
  have t4 : Sl (w8.alloc (.cells #[.int .i64 1, .int .i64 2] 3)) (some ⟨w8.heap.size, 0, none⟩) 2 (([1, 2] : List Int).map (.int .i64)) := Sl.of_blk (Blk.new w8 _ _) rfl (by decide)
  refine (show Calls Try.prog 34 #[.slice (some ⟨g8, 0, none⟩) 2 c8, .slice (some ⟨w8.heap.size, 0, none⟩) 2 2] _ _ from same12_any _ _ _ _ _ _ _ _ _ t3 t4 (by decide) (by decide)).mono ?_
  rintro e w9 ⟨he9, n9, rfl⟩
  subst he9
  have z8 : PI.eqL ([1, 2] : List Int) ([1, 2] : List Int) = true := by rfl
  have b9 : Below w6.heap.size w6 ((w8.alloc (.cells #[.int .i64 1, .int .i64 2] 3)).drewN n9) := by
    have h1 : Below w6.heap.size w6 ((w6.alloc (.cells #[.int .i64 1, .int .i64 1, .int .i64 2, .int .i64 4, .int .i64 4, .int .i64 5] 3)).drewN n7) := below_drewN ((Below.refl _ _).alloc (Nat.le_refl _) _) _
    exact below_drewN ((below_then h1 hb8).alloc (below_then h1 hb8).size _) _
  have hp9 := (hp5.below hb6).below b9
  go_wp2_with fail
  refine (PI.near_any p g 3 2 c _ 9 (-9) _ hp9).mono ?_
  rintro e w10 ⟨he10, n10, rfl⟩
  have z9 : smp (([1, 1, 2, 4, 4, 5] : List Int).map (.int .i64)) 3 (clampI 9 3) (clampI (-9) 2) = .int .i64 2 := by rfl
  rw [z9] at he10
  subst he10
  go_wp2_with fail
  go_ret
  simp only [World.size_alloc] at hpn hgn
  have a1 : Below w.heap.size w w1 := ((Below.refl _ _).alloc (Nat.le_refl _) _).trans (hb1.mono (by simp))
  have a2 := a1.trans (b2.mono a1.size)
  have a3 := a2.grown hg3 a2.size (fun k hk => by injection hk with hk; omega)
  have a4 := a3.grown hg4 a3.size (fun k hk => by injection hk with hk; omega)
  have a5 := a4.trans (hb5.mono a4.size)
  have a6 := a5.trans (hb6.mono a5.size)
  have a9 := a6.trans (b9.mono a6.size)
  exact ⟨rfl, by rw [← World.drewN_drewN]; exact below_drewN a9 _⟩
end Go.Proofs.Ytlbocfinjlkebaa
