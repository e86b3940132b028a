/- alive: two samples are repeated, smoothed, and made one. -/
import Derived.Test.YtlbocfinjlkebaaSmL
namespace Go.Proofs.Ytlbocfinjlkebaa.Samp
open Go.RowKit

set_option maxRecDepth 100000 in
set_option maxHeartbeats 4000000 in
theorem alive_any (w : World) : Calls Try.prog 66 #[] w (TrueB w) := by
  have hz : Bytes [0, 8] := fun z hz => by simp at hz; omega
  have v1 : smp ((gridL 4 (upV [0, 8] 2 2 1) (1 * 4)).map (.int .u8)) 4 2 0 = .int .u8 8 := by kernel_rfl
  have v2 : smp ((gridL 4 (smV [0, 8] 2 1 2 1) (1 * 4)).map (.float .f32)) 4 1 0 = .float .f32 1073741824 := by kernel_rfl
  have v3 : smp ((gridL (dnS 2 2) (dnV [0, 8] 2 1 2 1) (dnS 1 1 * dnS 2 2)).map (.int .u8)) (dnS 2 2) 0 0 = .int .u8 4 := by kernel_rfl
  have ho : FloatKind.f32.format.order 1073741824 1073741824 = some .eq := by kernel_rfl
  have V1 := Lib.hid v1; clear v1
  have V2 := Lib.hid v2; clear v2
  have V3 := Lib.hid v3; clear v3
  go_enter Try.func66, Try.ntmps66
  go_wp2_with fail
  have s1 : Sl (w.alloc (.cells #[.int .u8 0, .int .u8 8] 5)) (some ⟨w.heap.size, 0, none⟩) (2 * 1) (([0, 8] : List Int).map (.int .u8)) := Sl.of_blk (Blk.new w _ _) rfl (by decide)
  refine (show Calls Try.prog 50 #[.int .i64 2, .int .i64 1, .slice (some ⟨w.heap.size, 0, none⟩) 2 2] _ _ from P8.of_yes 2 1 w.heap.size 0 2 _ _ (by decide) s1 (ints_oneCell .u8 _)).mono ?_
  rintro e w1 ⟨p, g, c, rfl, hp, hpn, hgn, b1⟩
  have a1 : Below w.heap.size w w1 := ((Below.refl _ _).alloc (Nat.le_refl _) _).trans (b1.mono (by simp))
  go_wp2_with fail
  refine (show Calls Try.prog 37 #[.pointer (some ⟨p, 0, none⟩), .int .i64 2, .int .i64 1, .int .i64 4, .int .i64 1] _ _ from up_yes p g 2 1 c [0, 8] 2 1 4 1 w1 hp (by decide)).mono ?_
  rintro e w2 ⟨pa, ga, ca, rfl, ha2, m1, m2, b2⟩
  have hp2 := hp.below b2
  go_wp2_with fail
  refine (show Calls Try.prog 39 #[.pointer (some ⟨p, 0, none⟩), .int .i64 2, .int .i64 1, .int .i64 4, .int .i64 1] _ _ from sm_yes p g 2 1 c [0, 8] 2 1 4 1 w2 hp2 hz (by decide)).mono ?_
  rintro e w3 ⟨pb, gb, cb, rfl, hb3, m3, m4, b3⟩
  have hp3 := hp2.below b3
  have ha3 := ha2.below b3
  go_wp2_with fail
  refine (show Calls Try.prog 20 #[.pointer (some ⟨p, 0, none⟩), .int .i64 2, .int .i64 1] _ _ from dn_yes p g 2 1 c [0, 8] 2 1 w3 hp3 hz (by decide) (by decide) (by decide) (by decide)).mono ?_
  rintro e w4 ⟨pc, gc, cc, rfl, hc4, m5, m6, b4⟩
  have ha4 := ha3.below b4
  have hb4 := hb3.below b4
  go_wp2_with fail
  refine (P8.at_in pa ga 4 1 ca _ 2 0 _ ha4 (by decide) (by decide) (by decide) (by decide)).mono ?_
  rintro e w' ⟨hee, n1, rfl⟩
  rw [V1.out] at hee
  subst hee
  go_wp2_with fail
  refine (PF.at_in pb gb 4 1 cb _ 1 0 _ (hb4.drewN _) (by decide) (by decide) (by decide) (by decide)).mono ?_
  rintro e w' ⟨hee, n2, rfl⟩
  rw [V2.out] at hee
  subst hee
  go_wp2_with fail
  refine (P8.at_in pc gc _ _ cc _ 0 0 _ (hc4.drewN _) (by decide) (by decide) (by decide) (by decide)).mono ?_
  rintro e w' ⟨hee, n3, rfl⟩
  rw [V3.out] at hee
  subst hee
  go_wp2_with fail
  go_ret
  exact ⟨rfl, below_drewN (below_then (below_then (below_then a1 b2) b3) b4) _⟩
set_option maxRecDepth 100000 in
set_option maxHeartbeats 4000000 in
theorem names_any (w : World) : Calls Try.prog 11 #[] w (TrueB w) := by
  go_enter Try.func11, Try.ntmps11
  go_wp2_with fail
  refine (up_nil 0 0 0 0 _).mono ?_
  rintro e w' ⟨rfl, rfl⟩
  go_wp2_with fail
  refine (sm_nil 0 0 0 0 _).mono ?_
  rintro e w' ⟨rfl, rfl⟩
  go_wp2_with fail
  refine (dn_nil 0 0 _).mono ?_
  rintro e w' ⟨rfl, rfl⟩
  go_wp2_with fail
  refine (alive_any _).mono ?_
  rintro e w1 ⟨rfl, b1⟩
  go_wp2_with fail
  go_ret
  exact ⟨rfl, b1⟩
end Go.Proofs.Ytlbocfinjlkebaa.Samp
