/- The program's bytes of a frame, the other kind. The program's bytes of any segment's data; what Text makes of them. -/
import Derived.Test.YtjfgfoeenajneaaGreatDoorGB6
namespace Go.Proofs.YtjfgfoeenajneaaGreatDoor.Sg
open Go.RowKit
open Go.Proofs.YtjfgfoeenajneaaGreatDoor.Lex (F)
set_option maxRecDepth 100000 in
set_option maxHeartbeats 64000000 in
theorem written_f193 (m : SegM) (vq vh vc vp vi : Value) (w : World) (hm : SegAt w m vq vh vc vp vi) (hok : SegOk m) (hcode : m.code = 193) :
    Calls Tryz.prog 53 #[.agg (segC m vq vh vc vp vi)] w (WrP w (dataM m)) := by
  have hdm := dataM_f (.inr hcode)
  obtain ⟨A, cap, rfl, hc, hcap⟩ := hm.c
  have hu : Blk (w.alloc (.cells (segC m vq vh (.slice A m.comps.length cap) vp vi) 31)) w.heap.size 31 (segC m vq vh (.slice A m.comps.length cap) vp vi) := Blk.new w _ _
  have hb : Below w.heap.size w (w.alloc (.cells (segC m vq vh (.slice A m.comps.length cap) vp vi) 31)) := (Below.refl _ _).alloc (Nat.le_refl _) _
  have g0 : (w.alloc (.cells (segC m vq vh (.slice A m.comps.length cap) vp vi) 31)).cell? ⟨w.heap.size, 0, none⟩ = some (.int .u8 193) := by rw [hu.cell]; unfold segC; rw [hcode]; rfl
  have g5 : (w.alloc (.cells (segC m vq vh (.slice A m.comps.length cap) vp vi) 31)).cell? ⟨w.heap.size, 5, none⟩ = some (.int .u8 (m.kind : Nat)) := by rw [hu.cell]; rfl
  have g6 : (w.alloc (.cells (segC m vq vh (.slice A m.comps.length cap) vp vi) 31)).cell? ⟨w.heap.size, 6, none⟩ = some (.int .i64 m.width) := by rw [hu.cell]; rfl
  have g7 : (w.alloc (.cells (segC m vq vh (.slice A m.comps.length cap) vp vi) 31)).cell? ⟨w.heap.size, 7, none⟩ = some (.int .i64 m.height) := by rw [hu.cell]; rfl
  have g8 : (w.alloc (.cells (segC m vq vh (.slice A m.comps.length cap) vp vi) 31)).cell? ⟨w.heap.size, 8, none⟩ = some (.slice A m.comps.length cap) := by rw [hu.cell]; rfl
  have hb8 := hok.comps
  have hfc := hok.fewC
  have hkd := hok.kind
  have hc1 := hc.below hb
  obtain ⟨_, hat9⟩ := rows_at (by decide) (fun c _ => (rfl : (compC c).length = 4)) hc
  clear hm hok hcode hc hu
  obtain ⟨ib, ib1, ib2, ib3, ib4⟩ := info_parts infoB
  have IB := Lib.hid (And.intro ib1 (And.intro ib2 (And.intro ib3 ib4))); clear ib1 ib2 ib3 ib4
  generalize dataM m = R at *
  go_enter Tryz.func53, Tryz.ntmps53
  go_upto_region 1 with fail
  generalize (segC m vq vh (.slice A m.comps.length cap) vp vi) = sv at *
  generalize (w.alloc (.cells sv 31)) = w1 at *
  obtain ⟨base, hbs⟩ : ∃ base, w.heap.size = base := ⟨_, rfl⟩
  have HS := Lib.hid hbs; clear hbs
  generalize w.heap.size = s0 at g0 g5 g6 g7 g8 ⊢
  generalize m.comps = l at *
  generalize m.kind = kind at *
  generalize m.width = wd at *
  generalize m.height = ht at *
  obtain ⟨n, hn⟩ : ∃ n, l.length = n := ⟨_, rfl⟩
  rw [hn] at g8 hc1 hcap hfc hat9
  have hat9 := Lib.hid hat9
  have HN := Lib.hid hn; clear hn
  have HDM := Lib.hid hdm; clear hdm
  have HC := Lib.hid (And.intro hc1 (And.intro hb8 hcap)); clear hc1 hb8 hcap
  go_upto_region 35 with fail
  have hF := Blk.new w1 27 #[.int .u8 (kind : Int), .int .i64 wd, .int .i64 ht, .slice A n cap]
  have hc2 := HC.out.1.below (w' := w1.alloc (.cells #[.int .u8 (kind : Int), .int .i64 wd, .int .i64 ht, .slice A n cap] 27)) ((Below.refl _ _).alloc (Nat.le_refl _) _)
  have hb2 := hb.alloc hb.size (.cells #[.int .u8 (kind : Int), .int .i64 wd, .int .i64 ht, .slice A n cap] 27)
  generalize (w1.alloc (.cells #[.int .u8 (kind : Int), .int .i64 wd, .int .i64 ht, .slice A n cap] 27)) = w2 at hF hb2 hc2 ⊢
  generalize w1.heap.size = g at hF ⊢
  have HS4 := Lib.hid (show (Tryz.prog.info? 27).map (·.size) = some (#[.int .u8 (kind : Int), .int .i64 wd, .int .i64 ht, .slice A n cap] : Array Value).size from size4)
  go_wp2_with (refine wpList_load_row rfl _ _ rfl g rfl _ _ _ _ hF Tryz.underlying27 rfl HS4.out ?_)
  refine (framed_any kind wd ht l A n cap w2 hc2 (by omega) HC.out.2.1 HC.out.2.2).mono ?_
  rintro e w3 ⟨rfl, hb3⟩
  have hF3 := hF.kept hb3
  have hc3 := hc2.below hb3
  have hb4 := below_then hb2 hb3
  clear hF hc2 hb2 hb3 HS4 hb
  obtain ⟨fe, hfe⟩ : ∃ fe, framedM wd ht l = fe := ⟨_, rfl⟩
  rw [hfe]
  have HFE := Lib.hid hfe; clear hfe
  by_cases h0 : fe = 0
  case neg =>
    have hres : R = .bad fe := by
      rw [HDM.out]
      unfold frameT
      rw [HFE.out, if_pos h0]
    have HR := Lib.hid hres; clear hres
    have h0b : ((fe : Int) != 0) = true := by simpa using h0
    have h0c : ¬ ((fe : Int) = 0) := by omega
    go_wp2_with fail
    go_ret2
    rw [HR.out]
    exact ⟨rfl, hb4⟩
  subst h0
  obtain ⟨⟨p1, p2, p3, p4⟩, ⟨p5, p6⟩, hfact⟩ := geom_ok (framed_geom HFE.out)
  rw [HN.out] at p5 p6
  have hres : R = .ok (8 :: (num2 ht.toNat ++ num2 wd.toNat ++ [UInt8.ofNat l.length] ++ l.flatMap compB)) := by
    rw [HDM.out]
    unfold frameT
    rw [HFE.out, if_neg (by simp)]
  have HR := Lib.hid hres; clear hres HDM
  have HFACT := Lib.hid hfact; clear hfact
  obtain ⟨wn, rfl⟩ : ∃ wn : Nat, wd = wn := ⟨wd.toNat, by omega⟩
  obtain ⟨hn2, rfl⟩ : ∃ hn2 : Nat, ht = hn2 := ⟨ht.toNat, by omega⟩
  go_upto_region 38 with fail
  have hwr : IntKind.u8.wrap (n : Int) = n := by rw [IntKind.wrap_u8']; omega
  have hwb : w.heap.size ≤ base := by have := HS.out; omega
  have hI : FI g (wn : Int) (hn2 : Int) (.slice A n cap) w3 := ⟨by rw [hF3.cell]; rfl, by rw [hF3.cell]; rfl, by rw [hF3.cell]; rfl⟩
  refine Lex4.wp_region_cut [] 16 rfl (FI g (wn : Int) (hn2 : Int) (.slice A n cap)) (fun u n h => h) hI (by kernel_rfl) (fun a0 a' w' => ∃ y130 y131 y132 y133 y134 y135 y136 y137 y138 y139 y140 y141 y142 y143 y144 v4, a' = (((((((((((((((a0.put (some 130) y130).put (some 131) y131).put (some 132) y132).put (some 133) y133).put (some 134) y134).put (some 135) y135).put (some 136) y136).put (some 137) y137).put (some 138) y138).put (some 139) y139).put (some 140) y140).put (some 141) y141).put (some 142) y142).put (some 143) y143).put (some 144) y144).put (some 4) v4 ∧ OwnB w' base v4 ([] ++ [UInt8.ofNat 8] ++ num2 hn2 ++ num2 wn ++ [UInt8.ofNat n]) ∧ Below w.heap.size w w' ∧ Blk w' g 27 #[.int .u8 (kind : Int), .int .i64 (wn : Int), .int .i64 (hn2 : Int), .slice A n cap]) ?_ ?_
  · have hF0 : Blk w3.drew g 27 #[.int .u8 (kind : Int), .int .i64 (wn : Int), .int .i64 (hn2 : Int), .slice A n cap] := hF3
    have ho0 : OwnB w3.drew base (.slice none 0 0) [] := OwnB.nil _ _
    have hb0 : Below w.heap.size w w3.drew := below_drewN hb4 1
    have hz0 : base ≤ w3.drew.heap.size := by have := hb0.size; have := HS.out; omega
    clear hF3 hb4 hI
    generalize w3.drew = W0 at hF0 ho0 hb0 hz0 ⊢
    refine Lex4.takeL 0 (by rfl) (by kernel_rfl) (Lex4.free_ (v := ?_) (by rfl) (by rfl) (fun u => ?_) ?_); rotate_left; (go_simp; try with_reducible rfl); simp only [Act.put, zA, zB, zC]
    refine Lex4.takeL 3 (by rfl) (by kernel_rfl) (Lex4.free_ (v := ?_) (by rfl) (by rfl) (fun u => ?_) ?_); rotate_left; (go_simp; try with_reducible rfl); simp only [Act.put, zA, zB, zC]
    refine Lex4.takeL 4 (by rfl) (by kernel_rfl) (Lex4.load_ (v := ?_) (by rfl) (by rfl) (fun u hu => ?_) ?_); rotate_left; (obtain ⟨hu0, hu1, hu2⟩ := hu; go_simp; try with_reducible rfl); simp only [Act.put, zA, zB, zC]
    refine Lex4.takeL 6 (by rfl) (by kernel_rfl) (Lex4.free_ (v := ?_) (by rfl) (by rfl) (fun u => ?_) ?_); rotate_left; (go_simp; try with_reducible rfl); simp only [Act.put, zA, zB, zC]
    refine Lex4.takeL 7 (by rfl) (by kernel_rfl) (Lex4.load_ (v := ?_) (by rfl) (by rfl) (fun u hu => ?_) ?_); rotate_left; (obtain ⟨hu0, hu1, hu2⟩ := hu; go_simp; try with_reducible rfl); simp only [Act.put, zA, zB, zC]
    refine Lex4.takeL 9 (by rfl) (by kernel_rfl) (Lex4.free_ (v := ?_) (by rfl) (by rfl) (fun u => ?_) ?_); rotate_left; (go_simp; try with_reducible rfl); simp only [Act.put, zA, zB, zC]
    refine Lex4.takeL 10 (by rfl) (by kernel_rfl) (Lex4.load_ (v := ?_) (by rfl) (by rfl) (fun u hu => ?_) ?_); rotate_left; (obtain ⟨hu0, hu1, hu2⟩ := hu; go_simp; try with_reducible rfl); simp only [Act.put, zA, zB, zC]
    refine Lex4.takeL 11 (by rfl) (by kernel_rfl) (Lex4.free_ (v := ?_) (by rfl) (by rfl) (fun u => ?_) ?_); rotate_left; (go_simp; try with_reducible rfl); simp only [Act.put, zA, zB, zC]
    refine Lex4.takeL 12 (by rfl) (by kernel_rfl) (Lex4.free_ (v := ?_) (by rfl) (by rfl) (fun u => ?_) ?_); rotate_left; (go_simp; try with_reducible rfl); simp only [Act.put, zA, zB, zC]
    refine Lex4.bothL 1 13 (by rfl) (by rfl) (by kernel_rfl) ?_ ?_
    · refine Lex4.eff_ (by rfl) (by rfl) (fun n1 K1 hK1 => ?_)
      have hF1 := Blk.drewN hF0 n1
      have ho1 := ho0.drewd n1
      have hb1 := below_drewN hb0 n1
      have hz1 := (show base ≤ (W0.drewN n1).heap.size from hz0)
      clear hF0 ho0 hb0 hz0
      generalize W0.drewN n1 = W1 at hF1 ho1 hb1 hz1 ⊢
      go_simp
      have hF2 := hF1.alloc (.cells #[.int .u8 8] 5)
      have ho2 := ho1.allocd (.cells #[.int .u8 8] 5)
      have hb2 := hb1.alloc hb1.size (.cells #[.int .u8 8] 5)
      have hz2 : base ≤ (W1.alloc (.cells #[.int .u8 8] 5)).heap.size := by have := hb2.size; have := HS.out; omega
      have h82 := Blk.new W1 5 #[.int .u8 8]
      refine hK1 _ _ ⟨by rw [hF2.cell]; rfl, by rw [hF2.cell]; rfl, by rw [hF2.cell]; rfl⟩ ?_
      clear hF1 ho1 hb1 hz1 hK1 K1
      generalize W1.alloc (.cells #[.int .u8 8] 5) = W2 at hF2 ho2 hb2 hz2 h82 ⊢
      generalize W1.heap.size = g82 at h82 ⊢
      try simp only [Act.put, zA, zB, zC]
      refine Lex4.bothL 2 13 (by rfl) (by rfl) (by kernel_rfl) ?_ ?_
      · refine Lex4.eff_ (by rfl) (by rfl) (fun n3 K3 hK3 => ?_)
        have hF3 := Blk.drewN hF2 n3
        have ho3 := ho2.drewd n3
        have hb3 := below_drewN hb2 n3
        have hz3 := (show base ≤ (W2.drewN n3).heap.size from hz2)
        have h83 := Blk.drewN h82 n3
        clear hF2 ho2 hb2 hz2 h82
        generalize W2.drewN n3 = W3 at hF3 ho3 hb3 hz3 h83 ⊢
        refine wp_app1 (.tmp 130) (.tmp 131) (by rfl) base (.slice none 0 0) [] _ 8 (by rfl) (by rfl) (by rw [Blk.cell h83]; rfl) (by omega) ho3 (by simp only [List.length_nil]; omega) hz3 ?_
        intro v4 W4 ho4 hgr4 hnb4
        have hF4 := blk_grown_to ho3 hF3 (by decide) hgr4
        have hb4 := own_grown_to hb3 ho3 hwb hgr4
        have hz4 : base ≤ W4.heap.size := by have := hb4.size; have := HS.out; omega
        refine hK3 _ _ ⟨by rw [hF4.cell]; rfl, by rw [hF4.cell]; rfl, by rw [hF4.cell]; rfl⟩ ?_
        clear hF3 ho3 hb3 hz3 h83 hgr4 hnb4 hK3 K3
        try simp only [Act.put, zA, zB, zC]
        refine Lex4.bothL 5 13 (by rfl) (by rfl) (by kernel_rfl) ?_ ?_
        · refine Lex4.eff_ (by rfl) (by rfl) (fun n5 K5 hK5 => ?_)
          have hF5 := Blk.drewN hF4 n5
          have ho5 := ho4.drewd n5
          have hb5 := below_drewN hb4 n5
          have hz5 := (show base ≤ (W4.drewN n5).heap.size from hz4)
          clear hF4 ho4 hb4 hz4
          generalize W4.drewN n5 = W5 at hF5 ho5 hb5 hz5 ⊢
          refine Lex4.wp_call (f := 54) (args := #[v4, .int .i64 (hn2 : Int)]) (by go_simp; try rfl) (two_nb base v4 ([] ++ [UInt8.ofNat 8]) hn2 W5 ho5 hz5 (by omega) (by simp only [List.length_append, List.length_cons, List.length_nil]; omega)) ?_
          rintro e6 W6 ⟨v6, rfl, ho6, hgr6, hnb6⟩
          have hF6 := blk_grown_to ho5 hF5 (by decide) hgr6
          have hb6 := own_grown_to hb5 ho5 hwb hgr6
          have hz6 : base ≤ W6.heap.size := by have := hb6.size; have := HS.out; omega
          refine ⟨_, rfl, hK5 _ _ ⟨by rw [hF6.cell]; rfl, by rw [hF6.cell]; rfl, by rw [hF6.cell]; rfl⟩ ?_⟩
          clear hF5 ho5 hb5 hz5 hgr6 hnb6 hK5 K5
          try simp only [Act.put, zA, zB, zC]
          refine Lex4.bothL 8 13 (by rfl) (by rfl) (by kernel_rfl) ?_ ?_
          · refine Lex4.eff_ (by rfl) (by rfl) (fun n7 K7 hK7 => ?_)
            have hF7 := Blk.drewN hF6 n7
            have ho7 := ho6.drewd n7
            have hb7 := below_drewN hb6 n7
            have hz7 := (show base ≤ (W6.drewN n7).heap.size from hz6)
            clear hF6 ho6 hb6 hz6
            generalize W6.drewN n7 = W7 at hF7 ho7 hb7 hz7 ⊢
            refine Lex4.wp_call (f := 54) (args := #[v6, .int .i64 (wn : Int)]) (by go_simp; try rfl) (two_nb base v6 ([] ++ [UInt8.ofNat 8] ++ num2 hn2) wn W7 ho7 hz7 (by omega) (by simp only [List.length_append, List.length_cons, List.length_nil, show ∀ z, (num2 z).length = 2 from fun _ => rfl]; omega)) ?_
            rintro e8 W8 ⟨v8, rfl, ho8, hgr8, hnb8⟩
            have hF8 := blk_grown_to ho7 hF7 (by decide) hgr8
            have hb8 := own_grown_to hb7 ho7 hwb hgr8
            have hz8 : base ≤ W8.heap.size := by have := hb8.size; have := HS.out; omega
            refine ⟨_, rfl, hK7 _ _ ⟨by rw [hF8.cell]; rfl, by rw [hF8.cell]; rfl, by rw [hF8.cell]; rfl⟩ ?_⟩
            clear hF7 ho7 hb7 hz7 hgr8 hnb8 hK7 K7
            try simp only [Act.put, zA, zB, zC]
            refine Lex4.oneL 13 (by rfl) (by kernel_rfl) ?_
            refine Lex4.eff_ (by rfl) (by rfl) (fun n9 K9 hK9 => ?_)
            have hF9 := Blk.drewN hF8 n9
            have ho9 := ho8.drewd n9
            have hb9 := below_drewN hb8 n9
            have hz9 := (show base ≤ (W8.drewN n9).heap.size from hz8)
            clear hF8 ho8 hb8 hz8
            generalize W8.drewN n9 = W9 at hF9 ho9 hb9 hz9 ⊢
            go_simp
            have hF10 := hF9.alloc (.cells #[.int .u8 (n : Int)] 5)
            have ho10 := ho9.allocd (.cells #[.int .u8 (n : Int)] 5)
            have hb10 := hb9.alloc hb9.size (.cells #[.int .u8 (n : Int)] 5)
            have hz10 : base ≤ (W9.alloc (.cells #[.int .u8 (n : Int)] 5)).heap.size := by have := hb10.size; have := HS.out; omega
            have hx10 := XF.new ho9 n
            refine hK9 _ _ ⟨by rw [hF10.cell]; rfl, by rw [hF10.cell]; rfl, by rw [hF10.cell]; rfl⟩ ?_
            clear hF9 ho9 hb9 hz9 hK9 K9
            generalize W9.alloc (.cells #[.int .u8 (n : Int)] 5) = W10 at hF10 ho10 hb10 hz10 hx10 ⊢
            generalize W9.heap.size = gx10 at hx10 ⊢
            try simp only [Act.put, zA, zB, zC]
            refine Lex4.oneL 14 (by rfl) (by kernel_rfl) ?_
            refine Lex4.eff_ (by rfl) (by rfl) (fun n11 K11 hK11 => ?_)
            have hF11 := Blk.drewN hF10 n11
            have ho11 := ho10.drewd n11
            have hb11 := below_drewN hb10 n11
            have hz11 := (show base ≤ (W10.drewN n11).heap.size from hz10)
            have hx11 := hx10.drewd n11
            clear hF10 ho10 hb10 hz10 hx10
            generalize W10.drewN n11 = W11 at hF11 ho11 hb11 hz11 hx11 ⊢
            refine wp_app1 (.tmp 138) (.tmp 143) (by rfl) base v8 ([] ++ [UInt8.ofNat 8] ++ num2 hn2 ++ num2 wn) _ n (by rfl) (by rfl) (by rw [Blk.cell hx11.1]; rfl) (by omega) ho11 (by simp only [List.length_append, List.length_cons, List.length_nil, show ∀ z, (num2 z).length = 2 from fun _ => rfl]; omega) hz11 ?_
            intro v12 W12 ho12 hgr12 hnb12
            have hF12 := blk_grown_to ho11 hF11 (by decide) hgr12
            have hb12 := own_grown_to hb11 ho11 hwb hgr12
            have hz12 : base ≤ W12.heap.size := by have := hb12.size; have := HS.out; omega
            have hx12 := hx11.grown hgr12 hnb12
            refine hK11 _ _ ⟨by rw [hF12.cell]; rfl, by rw [hF12.cell]; rfl, by rw [hF12.cell]; rfl⟩ ?_
            clear hF11 ho11 hb11 hz11 hx11 hgr12 hnb12 hK11 K11
            try simp only [Act.put, zA, zB, zC]
            refine Lex4.oneL 15 (by rfl) (by kernel_rfl) (Lex4.free_ (v := ?_) (by rfl) (by rfl) (fun u => ?_) ?_); rotate_left; (go_simp; try with_reducible rfl); simp only [Act.put, zA, zB, zC]
            refine Lex4.done (by kernel_rfl) (fun n9 => ?_)
            exact ⟨_, _, _, _, _, _, _, _, _, _, _, _, _, _, _, v12, rfl, ho12.drewd n9, below_drewN hb12 n9, Blk.drewN hF12 n9⟩
          · refine Lex4.eff_ (by rfl) (by rfl) (fun n13 K13 hK13 => ?_)
            have hF13 := Blk.drewN hF6 n13
            have ho13 := ho6.drewd n13
            have hb13 := below_drewN hb6 n13
            have hz13 := (show base ≤ (W6.drewN n13).heap.size from hz6)
            clear hF6 ho6 hb6 hz6
            generalize W6.drewN n13 = W13 at hF13 ho13 hb13 hz13 ⊢
            go_simp
            have hF14 := hF13.alloc (.cells #[.int .u8 (n : Int)] 5)
            have ho14 := ho13.allocd (.cells #[.int .u8 (n : Int)] 5)
            have hb14 := hb13.alloc hb13.size (.cells #[.int .u8 (n : Int)] 5)
            have hz14 : base ≤ (W13.alloc (.cells #[.int .u8 (n : Int)] 5)).heap.size := by have := hb14.size; have := HS.out; omega
            have hx14 := XF.new ho13 n
            refine hK13 _ _ ⟨by rw [hF14.cell]; rfl, by rw [hF14.cell]; rfl, by rw [hF14.cell]; rfl⟩ ?_
            clear hF13 ho13 hb13 hz13 hK13 K13
            generalize W13.alloc (.cells #[.int .u8 (n : Int)] 5) = W14 at hF14 ho14 hb14 hz14 hx14 ⊢
            generalize W13.heap.size = gx14 at hx14 ⊢
            try simp only [Act.put, zA, zB, zC]
            refine Lex4.oneL 8 (by rfl) (by kernel_rfl) ?_
            refine Lex4.eff_ (by rfl) (by rfl) (fun n15 K15 hK15 => ?_)
            have hF15 := Blk.drewN hF14 n15
            have ho15 := ho14.drewd n15
            have hb15 := below_drewN hb14 n15
            have hz15 := (show base ≤ (W14.drewN n15).heap.size from hz14)
            have hx15 := hx14.drewd n15
            clear hF14 ho14 hb14 hz14 hx14
            generalize W14.drewN n15 = W15 at hF15 ho15 hb15 hz15 hx15 ⊢
            refine Lex4.wp_call (f := 54) (args := #[v6, .int .i64 (wn : Int)]) (by go_simp; try rfl) (two_nb base v6 ([] ++ [UInt8.ofNat 8] ++ num2 hn2) wn W15 ho15 hz15 (by omega) (by simp only [List.length_append, List.length_cons, List.length_nil, show ∀ z, (num2 z).length = 2 from fun _ => rfl]; omega)) ?_
            rintro e16 W16 ⟨v16, rfl, ho16, hgr16, hnb16⟩
            have hF16 := blk_grown_to ho15 hF15 (by decide) hgr16
            have hb16 := own_grown_to hb15 ho15 hwb hgr16
            have hz16 : base ≤ W16.heap.size := by have := hb16.size; have := HS.out; omega
            have hx16 := hx15.grown hgr16 hnb16
            refine ⟨_, rfl, hK15 _ _ ⟨by rw [hF16.cell]; rfl, by rw [hF16.cell]; rfl, by rw [hF16.cell]; rfl⟩ ?_⟩
            clear hF15 ho15 hb15 hz15 hx15 hgr16 hnb16 hK15 K15
            try simp only [Act.put, zA, zB, zC]
            refine Lex4.oneL 14 (by rfl) (by kernel_rfl) ?_
            refine Lex4.eff_ (by rfl) (by rfl) (fun n17 K17 hK17 => ?_)
            have hF17 := Blk.drewN hF16 n17
            have ho17 := ho16.drewd n17
            have hb17 := below_drewN hb16 n17
            have hz17 := (show base ≤ (W16.drewN n17).heap.size from hz16)
            have hx17 := hx16.drewd n17
            clear hF16 ho16 hb16 hz16 hx16
            generalize W16.drewN n17 = W17 at hF17 ho17 hb17 hz17 hx17 ⊢
            refine wp_app1 (.tmp 138) (.tmp 143) (by rfl) base v16 ([] ++ [UInt8.ofNat 8] ++ num2 hn2 ++ num2 wn) _ n (by rfl) (by rfl) (by rw [Blk.cell hx17.1]; rfl) (by omega) ho17 (by simp only [List.length_append, List.length_cons, List.length_nil, show ∀ z, (num2 z).length = 2 from fun _ => rfl]; omega) hz17 ?_
            intro v18 W18 ho18 hgr18 hnb18
            have hF18 := blk_grown_to ho17 hF17 (by decide) hgr18
            have hb18 := own_grown_to hb17 ho17 hwb hgr18
            have hz18 : base ≤ W18.heap.size := by have := hb18.size; have := HS.out; omega
            have hx18 := hx17.grown hgr18 hnb18
            refine hK17 _ _ ⟨by rw [hF18.cell]; rfl, by rw [hF18.cell]; rfl, by rw [hF18.cell]; rfl⟩ ?_
            clear hF17 ho17 hb17 hz17 hx17 hgr18 hnb18 hK17 K17
            try simp only [Act.put, zA, zB, zC]
            refine Lex4.oneL 15 (by rfl) (by kernel_rfl) (Lex4.free_ (v := ?_) (by rfl) (by rfl) (fun u => ?_) ?_); rotate_left; (go_simp; try with_reducible rfl); simp only [Act.put, zA, zB, zC]
            refine Lex4.done (by kernel_rfl) (fun n9 => ?_)
            exact ⟨_, _, _, _, _, _, _, _, _, _, _, _, _, _, _, v18, rfl, ho18.drewd n9, below_drewN hb18 n9, Blk.drewN hF18 n9⟩
        · refine Lex4.eff_ (by rfl) (by rfl) (fun n19 K19 hK19 => ?_)
          have hF19 := Blk.drewN hF4 n19
          have ho19 := ho4.drewd n19
          have hb19 := below_drewN hb4 n19
          have hz19 := (show base ≤ (W4.drewN n19).heap.size from hz4)
          clear hF4 ho4 hb4 hz4
          generalize W4.drewN n19 = W19 at hF19 ho19 hb19 hz19 ⊢
          go_simp
          have hF20 := hF19.alloc (.cells #[.int .u8 (n : Int)] 5)
          have ho20 := ho19.allocd (.cells #[.int .u8 (n : Int)] 5)
          have hb20 := hb19.alloc hb19.size (.cells #[.int .u8 (n : Int)] 5)
          have hz20 : base ≤ (W19.alloc (.cells #[.int .u8 (n : Int)] 5)).heap.size := by have := hb20.size; have := HS.out; omega
          have hx20 := XF.new ho19 n
          refine hK19 _ _ ⟨by rw [hF20.cell]; rfl, by rw [hF20.cell]; rfl, by rw [hF20.cell]; rfl⟩ ?_
          clear hF19 ho19 hb19 hz19 hK19 K19
          generalize W19.alloc (.cells #[.int .u8 (n : Int)] 5) = W20 at hF20 ho20 hb20 hz20 hx20 ⊢
          generalize W19.heap.size = gx20 at hx20 ⊢
          try simp only [Act.put, zA, zB, zC]
          refine Lex4.oneL 5 (by rfl) (by kernel_rfl) ?_
          refine Lex4.eff_ (by rfl) (by rfl) (fun n21 K21 hK21 => ?_)
          have hF21 := Blk.drewN hF20 n21
          have ho21 := ho20.drewd n21
          have hb21 := below_drewN hb20 n21
          have hz21 := (show base ≤ (W20.drewN n21).heap.size from hz20)
          have hx21 := hx20.drewd n21
          clear hF20 ho20 hb20 hz20 hx20
          generalize W20.drewN n21 = W21 at hF21 ho21 hb21 hz21 hx21 ⊢
          refine Lex4.wp_call (f := 54) (args := #[v4, .int .i64 (hn2 : Int)]) (by go_simp; try rfl) (two_nb base v4 ([] ++ [UInt8.ofNat 8]) hn2 W21 ho21 hz21 (by omega) (by simp only [List.length_append, List.length_cons, List.length_nil]; omega)) ?_
          rintro e22 W22 ⟨v22, rfl, ho22, hgr22, hnb22⟩
          have hF22 := blk_grown_to ho21 hF21 (by decide) hgr22
          have hb22 := own_grown_to hb21 ho21 hwb hgr22
          have hz22 : base ≤ W22.heap.size := by have := hb22.size; have := HS.out; omega
          have hx22 := hx21.grown hgr22 hnb22
          refine ⟨_, rfl, hK21 _ _ ⟨by rw [hF22.cell]; rfl, by rw [hF22.cell]; rfl, by rw [hF22.cell]; rfl⟩ ?_⟩
          clear hF21 ho21 hb21 hz21 hx21 hgr22 hnb22 hK21 K21
          try simp only [Act.put, zA, zB, zC]
          refine Lex4.oneL 8 (by rfl) (by kernel_rfl) ?_
          refine Lex4.eff_ (by rfl) (by rfl) (fun n23 K23 hK23 => ?_)
          have hF23 := Blk.drewN hF22 n23
          have ho23 := ho22.drewd n23
          have hb23 := below_drewN hb22 n23
          have hz23 := (show base ≤ (W22.drewN n23).heap.size from hz22)
          have hx23 := hx22.drewd n23
          clear hF22 ho22 hb22 hz22 hx22
          generalize W22.drewN n23 = W23 at hF23 ho23 hb23 hz23 hx23 ⊢
          refine Lex4.wp_call (f := 54) (args := #[v22, .int .i64 (wn : Int)]) (by go_simp; try rfl) (two_nb base v22 ([] ++ [UInt8.ofNat 8] ++ num2 hn2) wn W23 ho23 hz23 (by omega) (by simp only [List.length_append, List.length_cons, List.length_nil, show ∀ z, (num2 z).length = 2 from fun _ => rfl]; omega)) ?_
          rintro e24 W24 ⟨v24, rfl, ho24, hgr24, hnb24⟩
          have hF24 := blk_grown_to ho23 hF23 (by decide) hgr24
          have hb24 := own_grown_to hb23 ho23 hwb hgr24
          have hz24 : base ≤ W24.heap.size := by have := hb24.size; have := HS.out; omega
          have hx24 := hx23.grown hgr24 hnb24
          refine ⟨_, rfl, hK23 _ _ ⟨by rw [hF24.cell]; rfl, by rw [hF24.cell]; rfl, by rw [hF24.cell]; rfl⟩ ?_⟩
          clear hF23 ho23 hb23 hz23 hx23 hgr24 hnb24 hK23 K23
          try simp only [Act.put, zA, zB, zC]
          refine Lex4.oneL 14 (by rfl) (by kernel_rfl) ?_
          refine Lex4.eff_ (by rfl) (by rfl) (fun n25 K25 hK25 => ?_)
          have hF25 := Blk.drewN hF24 n25
          have ho25 := ho24.drewd n25
          have hb25 := below_drewN hb24 n25
          have hz25 := (show base ≤ (W24.drewN n25).heap.size from hz24)
          have hx25 := hx24.drewd n25
          clear hF24 ho24 hb24 hz24 hx24
          generalize W24.drewN n25 = W25 at hF25 ho25 hb25 hz25 hx25 ⊢
          refine wp_app1 (.tmp 138) (.tmp 143) (by rfl) base v24 ([] ++ [UInt8.ofNat 8] ++ num2 hn2 ++ num2 wn) _ n (by rfl) (by rfl) (by rw [Blk.cell hx25.1]; rfl) (by omega) ho25 (by simp only [List.length_append, List.length_cons, List.length_nil, show ∀ z, (num2 z).length = 2 from fun _ => rfl]; omega) hz25 ?_
          intro v26 W26 ho26 hgr26 hnb26
          have hF26 := blk_grown_to ho25 hF25 (by decide) hgr26
          have hb26 := own_grown_to hb25 ho25 hwb hgr26
          have hz26 : base ≤ W26.heap.size := by have := hb26.size; have := HS.out; omega
          have hx26 := hx25.grown hgr26 hnb26
          refine hK25 _ _ ⟨by rw [hF26.cell]; rfl, by rw [hF26.cell]; rfl, by rw [hF26.cell]; rfl⟩ ?_
          clear hF25 ho25 hb25 hz25 hx25 hgr26 hnb26 hK25 K25
          try simp only [Act.put, zA, zB, zC]
          refine Lex4.oneL 15 (by rfl) (by kernel_rfl) (Lex4.free_ (v := ?_) (by rfl) (by rfl) (fun u => ?_) ?_); rotate_left; (go_simp; try with_reducible rfl); simp only [Act.put, zA, zB, zC]
          refine Lex4.done (by kernel_rfl) (fun n9 => ?_)
          exact ⟨_, _, _, _, _, _, _, _, _, _, _, _, _, _, _, v26, rfl, ho26.drewd n9, below_drewN hb26 n9, Blk.drewN hF26 n9⟩
      · refine Lex4.eff_ (by rfl) (by rfl) (fun n27 K27 hK27 => ?_)
        have hF27 := Blk.drewN hF2 n27
        have ho27 := ho2.drewd n27
        have hb27 := below_drewN hb2 n27
        have hz27 := (show base ≤ (W2.drewN n27).heap.size from hz2)
        have h827 := Blk.drewN h82 n27
        clear hF2 ho2 hb2 hz2 h82
        generalize W2.drewN n27 = W27 at hF27 ho27 hb27 hz27 h827 ⊢
        go_simp
        have hF28 := hF27.alloc (.cells #[.int .u8 (n : Int)] 5)
        have ho28 := ho27.allocd (.cells #[.int .u8 (n : Int)] 5)
        have hb28 := hb27.alloc hb27.size (.cells #[.int .u8 (n : Int)] 5)
        have hz28 : base ≤ (W27.alloc (.cells #[.int .u8 (n : Int)] 5)).heap.size := by have := hb28.size; have := HS.out; omega
        have hx28 := XF.new ho27 n
        have h828 := Blk.alloc h827 (.cells #[.int .u8 (n : Int)] 5)
        refine hK27 _ _ ⟨by rw [hF28.cell]; rfl, by rw [hF28.cell]; rfl, by rw [hF28.cell]; rfl⟩ ?_
        clear hF27 ho27 hb27 hz27 h827 hK27 K27
        generalize W27.alloc (.cells #[.int .u8 (n : Int)] 5) = W28 at hF28 ho28 hb28 hz28 hx28 h828 ⊢
        generalize W27.heap.size = gx28 at hx28 ⊢
        try simp only [Act.put, zA, zB, zC]
        refine Lex4.oneL 2 (by rfl) (by kernel_rfl) ?_
        refine Lex4.eff_ (by rfl) (by rfl) (fun n29 K29 hK29 => ?_)
        have hF29 := Blk.drewN hF28 n29
        have ho29 := ho28.drewd n29
        have hb29 := below_drewN hb28 n29
        have hz29 := (show base ≤ (W28.drewN n29).heap.size from hz28)
        have hx29 := hx28.drewd n29
        have h829 := Blk.drewN h828 n29
        clear hF28 ho28 hb28 hz28 hx28 h828
        generalize W28.drewN n29 = W29 at hF29 ho29 hb29 hz29 hx29 h829 ⊢
        refine wp_app1 (.tmp 130) (.tmp 131) (by rfl) base (.slice none 0 0) [] _ 8 (by rfl) (by rfl) (by rw [Blk.cell h829]; rfl) (by omega) ho29 (by simp only [List.length_nil]; omega) hz29 ?_
        intro v30 W30 ho30 hgr30 hnb30
        have hF30 := blk_grown_to ho29 hF29 (by decide) hgr30
        have hb30 := own_grown_to hb29 ho29 hwb hgr30
        have hz30 : base ≤ W30.heap.size := by have := hb30.size; have := HS.out; omega
        have hx30 := hx29.grown hgr30 hnb30
        refine hK29 _ _ ⟨by rw [hF30.cell]; rfl, by rw [hF30.cell]; rfl, by rw [hF30.cell]; rfl⟩ ?_
        clear hF29 ho29 hb29 hz29 hx29 h829 hgr30 hnb30 hK29 K29
        try simp only [Act.put, zA, zB, zC]
        refine Lex4.oneL 5 (by rfl) (by kernel_rfl) ?_
        refine Lex4.eff_ (by rfl) (by rfl) (fun n31 K31 hK31 => ?_)
        have hF31 := Blk.drewN hF30 n31
        have ho31 := ho30.drewd n31
        have hb31 := below_drewN hb30 n31
        have hz31 := (show base ≤ (W30.drewN n31).heap.size from hz30)
        have hx31 := hx30.drewd n31
        clear hF30 ho30 hb30 hz30 hx30
        generalize W30.drewN n31 = W31 at hF31 ho31 hb31 hz31 hx31 ⊢
        refine Lex4.wp_call (f := 54) (args := #[v30, .int .i64 (hn2 : Int)]) (by go_simp; try rfl) (two_nb base v30 ([] ++ [UInt8.ofNat 8]) hn2 W31 ho31 hz31 (by omega) (by simp only [List.length_append, List.length_cons, List.length_nil]; omega)) ?_
        rintro e32 W32 ⟨v32, rfl, ho32, hgr32, hnb32⟩
        have hF32 := blk_grown_to ho31 hF31 (by decide) hgr32
        have hb32 := own_grown_to hb31 ho31 hwb hgr32
        have hz32 : base ≤ W32.heap.size := by have := hb32.size; have := HS.out; omega
        have hx32 := hx31.grown hgr32 hnb32
        refine ⟨_, rfl, hK31 _ _ ⟨by rw [hF32.cell]; rfl, by rw [hF32.cell]; rfl, by rw [hF32.cell]; rfl⟩ ?_⟩
        clear hF31 ho31 hb31 hz31 hx31 hgr32 hnb32 hK31 K31
        try simp only [Act.put, zA, zB, zC]
        refine Lex4.oneL 8 (by rfl) (by kernel_rfl) ?_
        refine Lex4.eff_ (by rfl) (by rfl) (fun n33 K33 hK33 => ?_)
        have hF33 := Blk.drewN hF32 n33
        have ho33 := ho32.drewd n33
        have hb33 := below_drewN hb32 n33
        have hz33 := (show base ≤ (W32.drewN n33).heap.size from hz32)
        have hx33 := hx32.drewd n33
        clear hF32 ho32 hb32 hz32 hx32
        generalize W32.drewN n33 = W33 at hF33 ho33 hb33 hz33 hx33 ⊢
        refine Lex4.wp_call (f := 54) (args := #[v32, .int .i64 (wn : Int)]) (by go_simp; try rfl) (two_nb base v32 ([] ++ [UInt8.ofNat 8] ++ num2 hn2) wn W33 ho33 hz33 (by omega) (by simp only [List.length_append, List.length_cons, List.length_nil, show ∀ z, (num2 z).length = 2 from fun _ => rfl]; omega)) ?_
        rintro e34 W34 ⟨v34, rfl, ho34, hgr34, hnb34⟩
        have hF34 := blk_grown_to ho33 hF33 (by decide) hgr34
        have hb34 := own_grown_to hb33 ho33 hwb hgr34
        have hz34 : base ≤ W34.heap.size := by have := hb34.size; have := HS.out; omega
        have hx34 := hx33.grown hgr34 hnb34
        refine ⟨_, rfl, hK33 _ _ ⟨by rw [hF34.cell]; rfl, by rw [hF34.cell]; rfl, by rw [hF34.cell]; rfl⟩ ?_⟩
        clear hF33 ho33 hb33 hz33 hx33 hgr34 hnb34 hK33 K33
        try simp only [Act.put, zA, zB, zC]
        refine Lex4.oneL 14 (by rfl) (by kernel_rfl) ?_
        refine Lex4.eff_ (by rfl) (by rfl) (fun n35 K35 hK35 => ?_)
        have hF35 := Blk.drewN hF34 n35
        have ho35 := ho34.drewd n35
        have hb35 := below_drewN hb34 n35
        have hz35 := (show base ≤ (W34.drewN n35).heap.size from hz34)
        have hx35 := hx34.drewd n35
        clear hF34 ho34 hb34 hz34 hx34
        generalize W34.drewN n35 = W35 at hF35 ho35 hb35 hz35 hx35 ⊢
        refine wp_app1 (.tmp 138) (.tmp 143) (by rfl) base v34 ([] ++ [UInt8.ofNat 8] ++ num2 hn2 ++ num2 wn) _ n (by rfl) (by rfl) (by rw [Blk.cell hx35.1]; rfl) (by omega) ho35 (by simp only [List.length_append, List.length_cons, List.length_nil, show ∀ z, (num2 z).length = 2 from fun _ => rfl]; omega) hz35 ?_
        intro v36 W36 ho36 hgr36 hnb36
        have hF36 := blk_grown_to ho35 hF35 (by decide) hgr36
        have hb36 := own_grown_to hb35 ho35 hwb hgr36
        have hz36 : base ≤ W36.heap.size := by have := hb36.size; have := HS.out; omega
        have hx36 := hx35.grown hgr36 hnb36
        refine hK35 _ _ ⟨by rw [hF36.cell]; rfl, by rw [hF36.cell]; rfl, by rw [hF36.cell]; rfl⟩ ?_
        clear hF35 ho35 hb35 hz35 hx35 hgr36 hnb36 hK35 K35
        try simp only [Act.put, zA, zB, zC]
        refine Lex4.oneL 15 (by rfl) (by kernel_rfl) (Lex4.free_ (v := ?_) (by rfl) (by rfl) (fun u => ?_) ?_); rotate_left; (go_simp; try with_reducible rfl); simp only [Act.put, zA, zB, zC]
        refine Lex4.done (by kernel_rfl) (fun n9 => ?_)
        exact ⟨_, _, _, _, _, _, _, _, _, _, _, _, _, _, _, v36, rfl, ho36.drewd n9, below_drewN hb36 n9, Blk.drewN hF36 n9⟩
    · refine Lex4.eff_ (by rfl) (by rfl) (fun n37 K37 hK37 => ?_)
      have hF37 := Blk.drewN hF0 n37
      have ho37 := ho0.drewd n37
      have hb37 := below_drewN hb0 n37
      have hz37 := (show base ≤ (W0.drewN n37).heap.size from hz0)
      clear hF0 ho0 hb0 hz0
      generalize W0.drewN n37 = W37 at hF37 ho37 hb37 hz37 ⊢
      go_simp
      have hF38 := hF37.alloc (.cells #[.int .u8 (n : Int)] 5)
      have ho38 := ho37.allocd (.cells #[.int .u8 (n : Int)] 5)
      have hb38 := hb37.alloc hb37.size (.cells #[.int .u8 (n : Int)] 5)
      have hz38 : base ≤ (W37.alloc (.cells #[.int .u8 (n : Int)] 5)).heap.size := by have := hb38.size; have := HS.out; omega
      have hx38 := XF.new ho37 n
      refine hK37 _ _ ⟨by rw [hF38.cell]; rfl, by rw [hF38.cell]; rfl, by rw [hF38.cell]; rfl⟩ ?_
      clear hF37 ho37 hb37 hz37 hK37 K37
      generalize W37.alloc (.cells #[.int .u8 (n : Int)] 5) = W38 at hF38 ho38 hb38 hz38 hx38 ⊢
      generalize W37.heap.size = gx38 at hx38 ⊢
      try simp only [Act.put, zA, zB, zC]
      refine Lex4.oneL 1 (by rfl) (by kernel_rfl) ?_
      refine Lex4.eff_ (by rfl) (by rfl) (fun n39 K39 hK39 => ?_)
      have hF39 := Blk.drewN hF38 n39
      have ho39 := ho38.drewd n39
      have hb39 := below_drewN hb38 n39
      have hz39 := (show base ≤ (W38.drewN n39).heap.size from hz38)
      have hx39 := hx38.drewd n39
      clear hF38 ho38 hb38 hz38 hx38
      generalize W38.drewN n39 = W39 at hF39 ho39 hb39 hz39 hx39 ⊢
      go_simp
      have hF40 := hF39.alloc (.cells #[.int .u8 8] 5)
      have ho40 := ho39.allocd (.cells #[.int .u8 8] 5)
      have hb40 := hb39.alloc hb39.size (.cells #[.int .u8 8] 5)
      have hz40 : base ≤ (W39.alloc (.cells #[.int .u8 8] 5)).heap.size := by have := hb40.size; have := HS.out; omega
      have h840 := Blk.new W39 5 #[.int .u8 8]
      have hx40 := hx39.allocd (.cells #[.int .u8 8] 5)
      refine hK39 _ _ ⟨by rw [hF40.cell]; rfl, by rw [hF40.cell]; rfl, by rw [hF40.cell]; rfl⟩ ?_
      clear hF39 ho39 hb39 hz39 hx39 hK39 K39
      generalize W39.alloc (.cells #[.int .u8 8] 5) = W40 at hF40 ho40 hb40 hz40 hx40 h840 ⊢
      generalize W39.heap.size = g840 at h840 ⊢
      try simp only [Act.put, zA, zB, zC]
      refine Lex4.oneL 2 (by rfl) (by kernel_rfl) ?_
      refine Lex4.eff_ (by rfl) (by rfl) (fun n41 K41 hK41 => ?_)
      have hF41 := Blk.drewN hF40 n41
      have ho41 := ho40.drewd n41
      have hb41 := below_drewN hb40 n41
      have hz41 := (show base ≤ (W40.drewN n41).heap.size from hz40)
      have hx41 := hx40.drewd n41
      have h841 := Blk.drewN h840 n41
      clear hF40 ho40 hb40 hz40 hx40 h840
      generalize W40.drewN n41 = W41 at hF41 ho41 hb41 hz41 hx41 h841 ⊢
      refine wp_app1 (.tmp 130) (.tmp 131) (by rfl) base (.slice none 0 0) [] _ 8 (by rfl) (by rfl) (by rw [Blk.cell h841]; rfl) (by omega) ho41 (by simp only [List.length_nil]; omega) hz41 ?_
      intro v42 W42 ho42 hgr42 hnb42
      have hF42 := blk_grown_to ho41 hF41 (by decide) hgr42
      have hb42 := own_grown_to hb41 ho41 hwb hgr42
      have hz42 : base ≤ W42.heap.size := by have := hb42.size; have := HS.out; omega
      have hx42 := hx41.grown hgr42 hnb42
      refine hK41 _ _ ⟨by rw [hF42.cell]; rfl, by rw [hF42.cell]; rfl, by rw [hF42.cell]; rfl⟩ ?_
      clear hF41 ho41 hb41 hz41 hx41 h841 hgr42 hnb42 hK41 K41
      try simp only [Act.put, zA, zB, zC]
      refine Lex4.oneL 5 (by rfl) (by kernel_rfl) ?_
      refine Lex4.eff_ (by rfl) (by rfl) (fun n43 K43 hK43 => ?_)
      have hF43 := Blk.drewN hF42 n43
      have ho43 := ho42.drewd n43
      have hb43 := below_drewN hb42 n43
      have hz43 := (show base ≤ (W42.drewN n43).heap.size from hz42)
      have hx43 := hx42.drewd n43
      clear hF42 ho42 hb42 hz42 hx42
      generalize W42.drewN n43 = W43 at hF43 ho43 hb43 hz43 hx43 ⊢
      refine Lex4.wp_call (f := 54) (args := #[v42, .int .i64 (hn2 : Int)]) (by go_simp; try rfl) (two_nb base v42 ([] ++ [UInt8.ofNat 8]) hn2 W43 ho43 hz43 (by omega) (by simp only [List.length_append, List.length_cons, List.length_nil]; omega)) ?_
      rintro e44 W44 ⟨v44, rfl, ho44, hgr44, hnb44⟩
      have hF44 := blk_grown_to ho43 hF43 (by decide) hgr44
      have hb44 := own_grown_to hb43 ho43 hwb hgr44
      have hz44 : base ≤ W44.heap.size := by have := hb44.size; have := HS.out; omega
      have hx44 := hx43.grown hgr44 hnb44
      refine ⟨_, rfl, hK43 _ _ ⟨by rw [hF44.cell]; rfl, by rw [hF44.cell]; rfl, by rw [hF44.cell]; rfl⟩ ?_⟩
      clear hF43 ho43 hb43 hz43 hx43 hgr44 hnb44 hK43 K43
      try simp only [Act.put, zA, zB, zC]
      refine Lex4.oneL 8 (by rfl) (by kernel_rfl) ?_
      refine Lex4.eff_ (by rfl) (by rfl) (fun n45 K45 hK45 => ?_)
      have hF45 := Blk.drewN hF44 n45
      have ho45 := ho44.drewd n45
      have hb45 := below_drewN hb44 n45
      have hz45 := (show base ≤ (W44.drewN n45).heap.size from hz44)
      have hx45 := hx44.drewd n45
      clear hF44 ho44 hb44 hz44 hx44
      generalize W44.drewN n45 = W45 at hF45 ho45 hb45 hz45 hx45 ⊢
      refine Lex4.wp_call (f := 54) (args := #[v44, .int .i64 (wn : Int)]) (by go_simp; try rfl) (two_nb base v44 ([] ++ [UInt8.ofNat 8] ++ num2 hn2) wn W45 ho45 hz45 (by omega) (by simp only [List.length_append, List.length_cons, List.length_nil, show ∀ z, (num2 z).length = 2 from fun _ => rfl]; omega)) ?_
      rintro e46 W46 ⟨v46, rfl, ho46, hgr46, hnb46⟩
      have hF46 := blk_grown_to ho45 hF45 (by decide) hgr46
      have hb46 := own_grown_to hb45 ho45 hwb hgr46
      have hz46 : base ≤ W46.heap.size := by have := hb46.size; have := HS.out; omega
      have hx46 := hx45.grown hgr46 hnb46
      refine ⟨_, rfl, hK45 _ _ ⟨by rw [hF46.cell]; rfl, by rw [hF46.cell]; rfl, by rw [hF46.cell]; rfl⟩ ?_⟩
      clear hF45 ho45 hb45 hz45 hx45 hgr46 hnb46 hK45 K45
      try simp only [Act.put, zA, zB, zC]
      refine Lex4.oneL 14 (by rfl) (by kernel_rfl) ?_
      refine Lex4.eff_ (by rfl) (by rfl) (fun n47 K47 hK47 => ?_)
      have hF47 := Blk.drewN hF46 n47
      have ho47 := ho46.drewd n47
      have hb47 := below_drewN hb46 n47
      have hz47 := (show base ≤ (W46.drewN n47).heap.size from hz46)
      have hx47 := hx46.drewd n47
      clear hF46 ho46 hb46 hz46 hx46
      generalize W46.drewN n47 = W47 at hF47 ho47 hb47 hz47 hx47 ⊢
      refine wp_app1 (.tmp 138) (.tmp 143) (by rfl) base v46 ([] ++ [UInt8.ofNat 8] ++ num2 hn2 ++ num2 wn) _ n (by rfl) (by rfl) (by rw [Blk.cell hx47.1]; rfl) (by omega) ho47 (by simp only [List.length_append, List.length_cons, List.length_nil, show ∀ z, (num2 z).length = 2 from fun _ => rfl]; omega) hz47 ?_
      intro v48 W48 ho48 hgr48 hnb48
      have hF48 := blk_grown_to ho47 hF47 (by decide) hgr48
      have hb48 := own_grown_to hb47 ho47 hwb hgr48
      have hz48 : base ≤ W48.heap.size := by have := hb48.size; have := HS.out; omega
      have hx48 := hx47.grown hgr48 hnb48
      refine hK47 _ _ ⟨by rw [hF48.cell]; rfl, by rw [hF48.cell]; rfl, by rw [hF48.cell]; rfl⟩ ?_
      clear hF47 ho47 hb47 hz47 hx47 hgr48 hnb48 hK47 K47
      try simp only [Act.put, zA, zB, zC]
      refine Lex4.oneL 15 (by rfl) (by kernel_rfl) (Lex4.free_ (v := ?_) (by rfl) (by rfl) (fun u => ?_) ?_); rotate_left; (go_simp; try with_reducible rfl); simp only [Act.put, zA, zB, zC]
      refine Lex4.done (by kernel_rfl) (fun n9 => ?_)
      exact ⟨_, _, _, _, _, _, _, _, _, _, _, _, _, _, _, v48, rfl, ho48.drewd n9, below_drewN hb48 n9, Blk.drewN hF48 n9⟩
  rintro a' w5 ⟨y130, y131, y132, y133, y134, y135, y136, y137, y138, y139, y140, y141, y142, y143, y144, v4, rfl, hown, hb5, hF5⟩
  simp only [Act.put, zA, zB, zC]
  clear hF3 hb4 hI hc3
  obtain ⟨b, o, rfl, hc9⟩ := hat9.out (by omega)
  have HC9 := Lib.hid hc9; clear hc9 hat9
  have e3 : w5.cell? ⟨g, 3, none⟩ = some (.slice (some ⟨b, o, none⟩) n cap) := by rw [hF5.cell]; rfl
  go_upto_region 40 with fail
  generalize hH : [] ++ [UInt8.ofNat 8] ++ num2 hn2 ++ num2 wn ++ [UInt8.ofNat n] = H at hown
  have hHl : H.length = 6 := by rw [← hH]; rfl
  have HH := Lib.hid hH; clear hH
  clear e3 hF5
  go_loopw [4, 148] (fun v i wr => ∃ k : Nat, k ≤ n ∧ i = .int .i64 k ∧ OwnB wr base v (H ++ (l.take k).flatMap compB) ∧ Below w.heap.size w wr) (fun _ i _ => n - (intOf i).toNat)
  case atStart => exact ⟨0, by omega, rfl, by simpa using hown, hb5⟩
  clear hown hb5
  case round =>
    obtain ⟨k, hk, rfl, hown, hb⟩ := hrel
    by_cases hlt : k < n
    · obtain ⟨c, hck⟩ : ∃ c, l[k]? = some c := ⟨l[k]'(by rw [HN.out]; exact hlt), List.getElem?_eq_getElem _⟩
      have hcb := HC.out.2.1 c (List.mem_of_getElem? hck)
      have hfc9 := List.any_eq_false.1 HFACT.out c (List.mem_of_getElem? hck)
      unfold factM at hfc9
      simp only [decide_eq_true_eq] at hfc9
      have d0 : wr.cell? ⟨b, o + k * 4, none⟩ = some (.int .u8 (c.id : Nat)) := below_cell hb (HC9.out k c hck 0 _ rfl)
      have d1 : wr.cell? ⟨b, o + k * 4 + 1, none⟩ = some (.int .u8 (c.h : Nat)) := below_cell hb (HC9.out k c hck 1 _ rfl)
      have d2 : wr.cell? ⟨b, o + k * 4 + 2, none⟩ = some (.int .u8 (c.v : Nat)) := below_cell hb (HC9.out k c hck 2 _ rfl)
      have d3 : wr.cell? ⟨b, o + k * 4 + 3, none⟩ = some (.int .u8 (c.q : Nat)) := below_cell hb (HC9.out k c hck 3 _ rfl)
      have hnx : (l.take (k + 1)).flatMap compB = (l.take k).flatMap compB ++ [UInt8.ofNat c.id, UInt8.ofNat (16 * c.h + c.v), UInt8.ofNat c.q] := by
        rw [take_next hck, List.flatMap_append]
        simp [compB]
      have HNX := Lib.hid hnx; clear hnx
      have htl := comps_len (l.take k)
      rw [List.length_take] at htl
      generalize (l.take k).flatMap compB = t at htl hown HNX
      generalize c.id = ci at *
      generalize c.h = ch at *
      generalize c.v = cv at *
      generalize c.q = cq at *
      have ysh : IntKind.u8.wrap ((ch : Int) * 16) = 16 * (ch : Int) := by rw [IntKind.wrap_u8']; omega
      have hor : bits .or .u8 (16 * (ch : Int)) (cv : Int) = 16 * (ch : Int) + (cv : Int) := by
        have h9 := u8_or_nat (16 * ch) cv (by omega) (by omega)
        have h8 := Nat.two_pow_add_eq_or_of_lt (i := 4) (b := cv) (by omega) ch
        rw [show 2 ^ 4 * ch = 16 * ch from rfl] at h8
        rw [← h8] at h9
        simpa using h9
      have y0 : 0 ≤ (k : Int) := by omega
      have y1 : (k : Int) < (n : Int) := by omega
      generalize hU : H ++ t = U at hown
      have hul : U.length ≤ 20 := by rw [← hU, List.length_append]; omega
      have HU2 := Lib.hid hU; clear hU htl
      go_upto_region 42 with fail
      have hu9 := Blk.new wr 90 #[.int .u8 (ci : Int), .int .u8 (ch : Int), .int .u8 (cv : Int), .int .u8 (cq : Int)]
      have hown9 := hown.allocd (.cells #[.int .u8 (ci : Int), .int .u8 (ch : Int), .int .u8 (cv : Int), .int .u8 (cq : Int)] 90)
      have hb9 : Below w.heap.size w (wr.alloc (.cells #[.int .u8 (ci : Int), .int .u8 (ch : Int), .int .u8 (cv : Int), .int .u8 (cq : Int)] 90)) := hb.alloc (hb.size) _
      generalize (wr.alloc (.cells #[.int .u8 (ci : Int), .int .u8 (ch : Int), .int .u8 (cv : Int), .int .u8 (cq : Int)] 90)) = w9 at hu9 hown9 hb9 ⊢
      generalize wr.heap.size = gg at hu9 ⊢
      have f0 : w9.cell? ⟨gg, 0, none⟩ = some (.int .u8 (ci : Int)) := by rw [hu9.cell]; rfl
      have f1 : w9.cell? ⟨gg, 1, none⟩ = some (.int .u8 (ch : Int)) := by rw [hu9.cell]; rfl
      have f2 : w9.cell? ⟨gg, 2, none⟩ = some (.int .u8 (cv : Int)) := by rw [hu9.cell]; rfl
      have f3 : w9.cell? ⟨gg, 3, none⟩ = some (.int .u8 (cq : Int)) := by rw [hu9.cell]; rfl
      clear d0 d1 d2 d3 hown hb
      have hz9 : base ≤ w9.heap.size := by have := hb9.size; have := HS.out; omega
      go_wp2_with (at_builtin; refine wpList_append_lies _ rfl (.tmp 152) (.tmp 163) 29 rfl base 5 ib (.int .u8 0) 1 1 Tryz.underlying29 IB.out.1 IB.out.2.1 IB.out.2.2.1 IB.out.2.2.2 rfl (by decide) _ (U).length (u8s (nats (U))) rfl (hown9.alloc _) ⟨w9.heap.size, 0, none⟩ 3 3 [.int .u8 (ci : Int), .int .u8 (16 * (ch : Int) + (cv : Int)), .int .u8 (cq : Int)] rfl rfl (laid_new _ _ _) (by intro u hu; simp at hu; (try rcases hu with rfl | rfl | rfl) <;> (try subst hu) <;> rfl) (by decide) (by unfold maxLen; omega) (by omega) (by simp; omega) (w9.heap.size + 1) (by simp) ?_; intro gg cap w6 hown6 hgrow6 hat6 hlt6)
      have hb7 := grown_app hb9 hown9 hwb _ hgrow6
      have hnews : ([.int .u8 (ci : Int), .int .u8 (16 * (ch : Int) + (cv : Int)), .int .u8 (cq : Int)] : List Value) = u8s (nats [UInt8.ofNat ci, UInt8.ofNat (16 * ch + cv), UInt8.ofNat cq]) := by
        unfold u8s nats
        simp
        omega
      have hown7 := app_own hown6 hnews rfl
      go_roundw
      case rel => exact ⟨k + 1, by omega, by go_num, by rw [HNX.out, ← List.append_assoc, HU2.out]; exact hown7, hb7⟩
      case measure => simp [intOf]; omega
    · obtain rfl : k = n := by omega
      have hall : l.take k = l := List.take_of_length_le (by rw [HN.out]; exact Nat.le_refl _)
      rw [hall] at hown
      go_wp2_with fail
      go_ret2
      rw [HR.out]
      refine ⟨_, rfl, ?_, hb⟩
      rw [HS.out, HN.out]
      have h9 : 8 :: (num2 (hn2 : Int).toNat ++ num2 (wn : Int).toNat ++ [UInt8.ofNat k] ++ l.flatMap compB) = H ++ l.flatMap compB := by
        rw [← HH.out, Int.toNat_natCast, Int.toNat_natCast]
        simp
      rw [h9]
      exact hown
end Go.Proofs.YtjfgfoeenajneaaGreatDoor.Sg
namespace Go.Proofs.YtjfgfoeenajneaaGreatDoor.Sg
open Go.RowKit

def dataP (m : SegM) : Res (List UInt8) := if m.code = 219 then quantR m.quants else if m.code = 196 then huffR m.huffs else dataM m
theorem written_any (m : SegM) (vq vh vc vp vi : Value) (w : World) (hm : SegAt w m vq vh vc vp vi) (hok : SegOk m) :
    Calls Tryz.prog 53 #[.agg (segC m vq vh vc vp vi)] w (WrS w (dataP m)) := by
  unfold dataP
  by_cases h1 : m.code = 219
  · rw [if_pos h1]
    exact (written_q m vq vh vc vp vi w hm hok h1).mono fun e w' h => wr_s h
  rw [if_neg h1]
  by_cases h2 : m.code = 196
  · rw [if_pos h2]
    exact (written_h m vq vh vc vp vi w hm hok h2).mono fun e w' h => wr_s h
  rw [if_neg h2]
  by_cases h3 : m.code = 192
  · exact (written_f192 m vq vh vc vp vi w hm hok h3).mono fun e w' h => wr_s h
  by_cases h4 : m.code = 193
  · exact (written_f193 m vq vh vc vp vi w hm hok h4).mono fun e w' h => wr_s h
  by_cases h5 : m.code = 218
  · exact written_s m vq vh vc vp vi w hm hok h5
  by_cases h6 : m.code = 221
  · exact written_r m vq vh vc vp vi w hok h6
  rw [dataM_d (by omega)]
  exact written_d m vq vh vc vp vi w hok (by omega)
/-- what Text says of the data -/
def sayP (c : Nat) (r : Res (List UInt8)) : Res (List UInt8) := match r with
  | .bad e => .bad e
  | .ok d => if ((c = 219 ∨ c = 196) ∧ d.length = 0) ∨ 65533 < d.length then .bad 152 else .ok (255 :: UInt8.ofNat c :: (num2 (d.length + 2) ++ d))
theorem refP_ok {c : Nat} (hc : c < 256) : refP c = 0 ↔ mayM c = true := by
  revert c
  unfold refP
  decide +kernel
theorem quantB_full (q : QuantM) : 0 < (quantB q).length := by unfold quantB; split <;> simp
theorem huffB_full (h : HuffM) : 0 < (huffB h).length := by unfold huffB; simp
theorem flat_pos {α : Type} {f : α → List UInt8} (hf : ∀ a, 0 < (f a).length) : ∀ {l : List α}, (l.flatMap f).length = 0 ↔ l = []
  | [] => by simp
  | a :: l => by
    have := hf a
    rw [List.flatMap_cons, List.length_append]
    constructor
    · intro h; omega
    · intro h; cases h
theorem textM_say (m : SegM) (hc : m.code < 256) : textM m = if refP m.code = 0 then sayP m.code (dataP m) else .bad 151 := by
  by_cases hr : refP m.code = 0
  · rw [if_pos hr, textM_yes hc ((refP_ok hc).1 hr)]
    unfold dataP sayP
    by_cases h1 : m.code = 219
    · rw [if_pos h1, dataM_q h1]
      unfold quantT quantR
      cases hq : m.quants.any quantBad with
      | true => rfl
      | false =>
        by_cases he : m.quants = []
        · simp [he, h1]
        · have h9 : ¬ (m.quants.flatMap quantB).length = 0 := fun h => he ((flat_pos quantB_full).1 h)
          simp only [if_neg he, Bool.false_eq_true, if_false]
          by_cases hl : 65533 < (m.quants.flatMap quantB).length
          · rw [if_pos hl, if_pos (.inr hl)]
          · rw [if_neg hl, if_neg (by omega)]
    rw [if_neg h1]
    by_cases h2 : m.code = 196
    · rw [if_pos h2, dataM_h h2]
      unfold huffT huffR
      cases hq : m.huffs.any huffBad with
      | true => rfl
      | false =>
        by_cases he : m.huffs = []
        · simp [he, h2]
        · have h9 : ¬ (m.huffs.flatMap huffB).length = 0 := fun h => he ((flat_pos huffB_full).1 h)
          simp only [if_neg he, Bool.false_eq_true, if_false]
          by_cases hl : 65533 < (m.huffs.flatMap huffB).length
          · rw [if_pos hl, if_pos (.inr hl)]
          · rw [if_neg hl, if_neg (by omega)]
    rw [if_neg h2]
    cases dataM m with
    | bad e => rfl
    | ok d =>
      by_cases hl : 65533 < d.length
      · simp [hl]
      · simp [hl, h1, h2]
  · rw [if_neg hr]
    refine textM_no ?_
    cases h : mayM m.code with
    | false => rfl
    | true => exact absurd ((refP_ok hc).2 h) hr
theorem dataP_len {m : SegM} (hok : SegOk m) {d : List UInt8} (h : dataP m = .ok d) : d.length ≤ 10000000000 := by
  unfold dataP at h
  by_cases h1 : m.code = 219
  · rw [if_pos h1] at h
    unfold quantR at h
    split at h
    · cases h
    · injection h with h
      subst h
      have := quants_len hok.quants
      have := hok.fewQ
      omega
  rw [if_neg h1] at h
  by_cases h2 : m.code = 196
  · rw [if_pos h2] at h
    unfold huffR at h
    split at h
    · cases h
    · rename_i hb
      injection h with h
      subst h
      have := huffs_len (by simpa using hb) (fun x hx => (hok.huffs x hx).len)
      have := hok.fewH
      omega
  rw [if_neg h2] at h
  by_cases h3 : m.code = 192 ∨ m.code = 193
  · rw [dataM_f h3] at h
    have := frameT_len h
    omega
  by_cases h5 : m.code = 218
  · rw [dataM_s h5] at h
    have := scanT_len h
    omega
  by_cases h6 : m.code = 221
  · rw [dataM_r h6] at h
    split at h
    · cases h
    · injection h with h
      subst h
      show 2 ≤ _
      decide
  rw [dataM_d (by omega)] at h
  injection h with h
  subst h
  have := hok.fewD
  omega
theorem dataP_bad {m : SegM} {c : Nat} (h : dataP m = .bad c) : c ≠ 0 := by
  unfold dataP at h
  by_cases h1 : m.code = 219
  · rw [if_pos h1] at h
    unfold quantR at h
    split at h
    · injection h with h; omega
    · cases h
  rw [if_neg h1] at h
  by_cases h2 : m.code = 196
  · rw [if_pos h2] at h
    unfold huffR at h
    split at h
    · injection h with h; omega
    · cases h
  rw [if_neg h2] at h
  by_cases h3 : m.code = 192 ∨ m.code = 193
  · rw [dataM_f h3] at h
    exact frameT_bad h
  by_cases h5 : m.code = 218
  · rw [dataM_s h5] at h
    exact scanT_bad h
  by_cases h6 : m.code = 221
  · rw [dataM_r h6] at h
    split at h
    · injection h with h; omega
    · cases h
  rw [dataM_d (by omega)] at h
  cases h
end Go.Proofs.YtjfgfoeenajneaaGreatDoor.Sg
