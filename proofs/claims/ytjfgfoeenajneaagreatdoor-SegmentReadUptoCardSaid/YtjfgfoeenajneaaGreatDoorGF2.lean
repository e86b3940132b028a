/- All lists of a segment are written over. -/
import Derived.Test.YtjfgfoeenajneaaGreatDoorGE6
namespace Go.Proofs.YtjfgfoeenajneaaGreatDoor.Sg
open Go.RowKit

/-- the values of the tables, each in a row of its own that may be written -/
def HVal (lo hi : Nat) (A2 : Option Addr) (nh : Nat) (u : World) : Prop := ∀ b o, A2 = some ⟨b, o, none⟩ → ∀ k, k < nh → ∃ A' n' c', u.cell? ⟨b, o + k * 19 + 18, none⟩ = some (.slice A' n' c') ∧ n' ≤ 16777216 ∧ Sp lo hi u A' n' 1 ∧ ∀ o', A' ≠ some ⟨b, o', none⟩
theorem HVal.wr {lo hi : Nat} {A2 : Option Addr} {nh : Nat} {T : Nat → Prop} {u u' : World} (h : HVal lo hi A2 nh u) (hw : Wr T u u') (hn : ∀ b o, A2 = some ⟨b, o, none⟩ → ¬ T b) : HVal lo hi A2 nh u' := fun b o e k hk => by
  obtain ⟨A', n', c', h1, h2, h3, h4⟩ := h b o e k hk
  exact ⟨A', n', c', hw.keep h1 (hn b o e), h2, h3.wr hw, h4⟩
theorem HVal.id {lo hi b o nh j : Nat} {u : World} (h : HVal lo hi (some ⟨b, o, none⟩) nh u) (v : Value) : HVal lo hi (some ⟨b, o, none⟩) nh (u.setCell ⟨b, o + j * 19 + 1, none⟩ v) := fun b' o' e k hk => by
  obtain ⟨A', n', c', h1, h2, h3, h4⟩ := h b' o' e k hk
  injection e with e
  injection e with e1 e2 _
  subst e1 e2
  refine ⟨A', n', c', ?_, h2, h3.wr (Wr.cell (S := fun g => g = b) u b _ v rfl), h4⟩
  rw [World.cell?_setCell_other (h := fun e => by injection e with _ e _; omega), h1]
theorem Sp.mono {lo hi n : Nat} {u : World} {A : Option Addr} {z : Nat} (h : Sp lo hi u A n z) : ∀ g, (0 < n ∧ ∃ o, A = some ⟨g, o, none⟩) → lo ≤ g ∧ g < hi := by
  rintro g ⟨h1, o, rfl⟩
  obtain ⟨b, o', e, h2, h3, _⟩ := h h1
  injection e with e
  injection e with e _ _
  subst e
  exact ⟨h2, h3⟩
theorem comp_size : (Tryz.prog.info? 90).map (·.size) = some (#[.int .u8 99, .int .u8 0, .int .u8 0, .int .u8 0] : Array Value).size := by kernel_rfl
theorem comp_one : (#[.int .u8 99, .int .u8 0, .int .u8 0, .int .u8 0] : Array Value).all (·.oneCell') = true := by kernel_rfl
theorem part_one : (#[.int .i64 9, .int .u8 0, .int .u8 0] : Array Value).all (·.oneCell') = true := by kernel_rfl
theorem part_size : (Tryz.prog.info? 92).map (·.size) = some (#[.int .i64 9, .int .u8 0, .int .u8 0] : Array Value).size := by kernel_rfl
theorem qz_size : (Tryz.prog.info? 81).map (·.size) = some (Tryz.zeroCells81.setIfInBounds 0 (.int .u8 9)).size := by kernel_rfl
theorem qz_66 : (Tryz.zeroCells81.setIfInBounds 0 (.int .u8 9)).size = 66 := by kernel_rfl
theorem qz_one : (Tryz.zeroCells81.setIfInBounds 0 (.int .u8 9)).all (·.oneCell') = true := by kernel_rfl
set_option maxRecDepth 100000 in
set_option maxHeartbeats 16000000 in
theorem spoil_any (lo hi : Nat) (m : SegM) (vq vh vc vp vi : Value) (w : World) (h : SpIn lo hi w m vq vh vc vp vi) (hhi : hi ≤ w.heap.size) (hok : SegOk m) :
    Calls Tryz.prog 10 #[.agg (segC m vq vh vc vp vi)] w fun e w' => (∃ r, e = .returned r) ∧ Wr (fun g => lo ≤ g ∧ g < hi) w w' := by
  obtain ⟨⟨A, c, rfl, hq⟩, ⟨A2, c2, rfl, hh, hx⟩, ⟨A3, c3, rfl, hc⟩, ⟨A4, c4, rfl, hp⟩, ⟨A5, c5, rfl, hi5⟩⟩ := h
  have hb : Below w.heap.size w (w.alloc (.cells (segC m (.slice A m.quants.length c) (.slice A2 m.huffs.length c2) (.slice A3 m.comps.length c3) (.slice A4 m.parts.length c4) (.slice A5 m.ids.length c5)) 31)) := (Below.refl _ _).alloc (Nat.le_refl _) _
  have hS := Blk.new w 31 (segC m (.slice A m.quants.length c) (.slice A2 m.huffs.length c2) (.slice A3 m.comps.length c3) (.slice A4 m.parts.length c4) (.slice A5 m.ids.length c5))
  have fq := hok.fewQ
  have fh := hok.fewH
  have fc := hok.fewC
  have fp := hok.fewP
  have fi := hok.fewI
  clear hok
  generalize m.quants.length = nq at *
  generalize m.huffs.length = nh at *
  generalize m.comps.length = nc at *
  generalize m.parts.length = np at *
  generalize m.ids.length = ni at *
  have k3 : (segC m (.slice A nq c) (.slice A2 nh c2) (.slice A3 nc c3) (.slice A4 np c4) (.slice A5 ni c5))[3]? = some (.slice A nq c) := rfl
  have k4 : (segC m (.slice A nq c) (.slice A2 nh c2) (.slice A3 nc c3) (.slice A4 np c4) (.slice A5 ni c5))[4]? = some (.slice A2 nh c2) := rfl
  have k8 : (segC m (.slice A nq c) (.slice A2 nh c2) (.slice A3 nc c3) (.slice A4 np c4) (.slice A5 ni c5))[8]? = some (.slice A3 nc c3) := rfl
  have k9 : (segC m (.slice A nq c) (.slice A2 nh c2) (.slice A3 nc c3) (.slice A4 np c4) (.slice A5 ni c5))[9]? = some (.slice A4 np c4) := rfl
  have k10 : (segC m (.slice A nq c) (.slice A2 nh c2) (.slice A3 nc c3) (.slice A4 np c4) (.slice A5 ni c5))[10]? = some (.slice A5 ni c5) := rfl
  go_enter Tryz.func10, Tryz.ntmps10
  go_upto_region 1 with fail
  have hW1 : ∀ S, Wr S w (w.alloc (.cells (segC m (.slice A nq c) (.slice A2 nh c2) (.slice A3 nc c3) (.slice A4 np c4) (.slice A5 ni c5)) 31)) := fun S => Wr.of_below hb
  have hx1 : ∀ b o, A2 = some ⟨b, o, none⟩ → 0 < nh → (∀ o', A ≠ some ⟨b, o', none⟩) ∧ ∀ k, k < nh → ∃ A' n' c', (w.alloc (.cells (segC m (.slice A nq c) (.slice A2 nh c2) (.slice A3 nc c3) (.slice A4 np c4) (.slice A5 ni c5)) 31)).cell? ⟨b, o + k * 19 + 18, none⟩ = some (.slice A' n' c') ∧ n' ≤ 16777216 ∧ Sp lo hi (w.alloc (.cells (segC m (.slice A nq c) (.slice A2 nh c2) (.slice A3 nc c3) (.slice A4 np c4) (.slice A5 ni c5)) 31)) A' n' 1 ∧ ∀ o', A' ≠ some ⟨b, o', none⟩ := fun b o e hn => by
    obtain ⟨h1, h2⟩ := hx b o e hn
    refine ⟨fun o' => h1 A nq c o' rfl, fun k hk => ?_⟩
    obtain ⟨A', n', c', h3, h4, h5, h6⟩ := h2 k hk
    exact ⟨A', n', c', below_cell hb h3, h4, h5.wr (hW1 (fun _ => False)), h6⟩
  have hq1 := hq.wr (hW1 (fun _ => False))
  have hh1 := hh.wr (hW1 (fun _ => False))
  have hc1 := hc.wr (hW1 (fun _ => False))
  have hp1 := hp.wr (hW1 (fun _ => False))
  have hi1 := hi5.wr (hW1 (fun _ => False))
  have hw1 := hW1 (fun g => lo ≤ g ∧ g < hi)
  clear hb hW1 hx hq hh hc hp hi5
  generalize (segC m (.slice A nq c) (.slice A2 nh c2) (.slice A3 nc c3) (.slice A4 np c4) (.slice A5 ni c5)) = sv at *
  generalize w.alloc (.cells sv 31) = w1 at *
  obtain ⟨s, hs⟩ : ∃ s, w.heap.size = s := ⟨_, rfl⟩
  rw [hs] at hS hhi
  simp only [hs]
  have HS := Lib.hid hs; clear hs
  have g3 : w1.cell? ⟨s, 3, none⟩ = some (.slice A nq c) := by rw [hS.cell, k3]
  have g4 : w1.cell? ⟨s, 4, none⟩ = some (.slice A2 nh c2) := by rw [hS.cell, k4]
  have g8 : w1.cell? ⟨s, 8, none⟩ = some (.slice A3 nc c3) := by rw [hS.cell, k8]
  have g9 : w1.cell? ⟨s, 9, none⟩ = some (.slice A4 np c4) := by rw [hS.cell, k9]
  have g10 : w1.cell? ⟨s, 10, none⟩ = some (.slice A5 ni c5) := by rw [hS.cell, k10]
  clear hS k3 k4 k8 k9 k10
  have HG := Lib.hid (And.intro g4 (And.intro g8 (And.intro g9 g10))); clear g4 g8 g9 g10
  have HX := Lib.hid (And.intro hx1 (And.intro hh1 (And.intro hc1 (And.intro hp1 hi1)))); clear hx1 hh1 hc1 hp1 hi1
  have HQ := Lib.hid hq1; clear hq1
  have HW := Lib.hid hw1; clear hw1
  have hns : ¬ (lo ≤ s ∧ s < hi) := by omega
  have HN := Lib.hid (And.intro hns hhi); clear hns hhi
  have HF := Lib.hid (And.intro fh (And.intro fc (And.intro fp fi))); clear fh fc fp fi
  go_upto_region 2 with fail
  go_loopw [2] (fun i wr => ∃ k : Nat, k ≤ nq ∧ i = .int .i64 k ∧ Wr (fun g => 0 < nq ∧ ∃ o, A = some ⟨g, o, none⟩) w1 wr) (fun i _ => nq - (intOf i).toNat)
  case atStart => exact ⟨0, by omega, rfl, Wr.refl _ _⟩
  case round =>
    obtain ⟨k, hk, rfl, hw⟩ := hrel
    have g3r : wr.cell? ⟨s, 3, none⟩ = some (.slice A nq c) := hw.keep g3 (by
      rintro ⟨h1, o, rfl⟩
      obtain ⟨b, o', e, h2, h3, _⟩ := HQ.out h1
      injection e with e
      injection e with e _ _
      have := HN.out.2
      omega)
    by_cases hlt : k < nq
    · obtain ⟨b, o, rfl, h1, h2, ht⟩ := HQ.out (by omega)
      have ht2 : wr.there b (o + k * 66) (Tryz.zeroCells81.setIfInBounds 0 (.int .u8 9)).size := qz_66 ▸ there_sub (hw.there ht) (k * 66) 66 (by have : (k + 1) * 66 ≤ nq * 66 := Nat.mul_le_mul_right _ (by omega); omega)
      have hw2 := hw.trans (Wr.cells (S := fun g => 0 < nq ∧ ∃ o', (some ⟨b, o, none⟩ : Option Addr) = some ⟨g, o', none⟩) wr b (o + k * 66) (Tryz.zeroCells81.setIfInBounds 0 (.int .u8 9)).toList ⟨by omega, o, rfl⟩)
      obtain ⟨w2, he⟩ : ∃ w2, wr.setCells b (o + k * 66) (Tryz.zeroCells81.setIfInBounds 0 (.int .u8 9)).toList = w2 := ⟨_, rfl⟩
      rw [he] at hw2
      have HT := Lib.hid (And.intro ht2 (And.intro hw2 he)); clear ht2 hw2 he ht h1 h2 hw g3
      have hk0 : 0 ≤ (k : Int) := by omega
      have hkn : (k : Int) < (nq : Int) := by omega
      go_wp2_with (refine wpList_store_mid rfl _ _ _ rfl b (o + k * 66) (Tryz.zeroCells81.setIfInBounds 0 (.int .u8 9)) rfl rfl HT.out.1 qz_size qz_one ?_; rw [HT.out.2.2])
      go_roundw
      case rel => exact ⟨k + 1, by omega, by go_num, HT.out.2.1⟩
      case measure => simp [intOf]; omega
    · have hwS : Wr (fun g => lo ≤ g ∧ g < hi) w1 wr := hw.mono HQ.out.mono
      have hvl : HVal lo hi A2 nh wr := fun b o e j hj => by
        obtain ⟨h1, h2⟩ := HX.out.1 b o e (by omega)
        obtain ⟨A', n', c', k1, k2, k3, k4⟩ := h2 j hj
        exact ⟨A', n', c', hw.keep k1 (fun ⟨_, o', e'⟩ => h1 o' e'), k2, k3.wr hw, k4⟩
      go_upto_region 6 with fail
      clear hw g3 g3r
      go_loopw [3] (fun i wr => ∃ k : Nat, k ≤ nh ∧ i = .int .i64 k ∧ Wr (fun g => lo ≤ g ∧ g < hi) w1 wr ∧ HVal lo hi A2 nh wr) (fun i _ => nh - (intOf i).toNat)
      case atStart => exact ⟨0, by omega, rfl, hwS, hvl⟩
      clear hwS hvl
      case round =>
        obtain ⟨k, hk, rfl, hwS, hvl⟩ := hrel
        have g4r : wr.cell? ⟨s, 4, none⟩ = some (.slice A2 nh c2) := hwS.keep HG.out.1 HN.out.1
        have fn := HF.out.1
        by_cases hlt : k < nh
        · obtain ⟨b, o, rfl, h1, h2, ht⟩ := HX.out.2.1 (by omega)
          obtain ⟨A', n', c', hv, hn', hsp, hne⟩ := hvl b o rfl k hlt
          have hv2 : wr.cell? ⟨b, o + k * 19 + 2 + 16, none⟩ = some (.slice A' n' c') := hv
          have hfl := fillW A' n' c' wr (by omega) (fun hn => by
            obtain ⟨b, o, e, _, _, ht⟩ := hsp hn
            rw [Nat.mul_one] at ht
            exact ⟨b, o, e, ht⟩)
          have HFL := Lib.hid hfl; clear hfl
          have HS2 := Lib.hid (And.intro hsp (And.intro hne (And.intro hvl (And.intro hwS (And.intro ht (And.intro h1 h2)))))); clear hsp hne hvl hwS ht h1 h2
          have hk0 : 0 ≤ (k : Int) := by omega
          have hkn : (k : Int) < (nh : Int) := by omega
          go_wp2_with fail
          refine HFL.out.mono ?_
          rintro e w3 ⟨⟨r, rfl⟩, hwf⟩
          have hw3 := HS2.out.2.2.2.1.trans (hwf.mono HS2.out.1.mono)
          have hvl3 := HS2.out.2.2.1.wr hwf (fun b' o' e ⟨_, o2, e2⟩ => by
            injection e with e
            injection e with e _ _
            subst e
            exact HS2.out.2.1 o2 e2)
          have g4r : w3.cell? ⟨s, 4, none⟩ = some (.slice (some ⟨b, o, none⟩) nh c2) := hw3.keep HG.out.1 HN.out.1
          obtain ⟨⟨v1, hc1⟩, hf1⟩ := there_at (hw3.there HS2.out.2.2.2.2.1) (k := k * 19 + 1) (by have : (k + 1) * 19 ≤ nh * 19 := Nat.mul_le_mul_right _ (by omega); omega)
          rw [← Nat.add_assoc] at hc1 hf1
          have hw4 := hw3.trans (Wr.cell (S := fun g => lo ≤ g ∧ g < hi) w3 b (o + k * 19 + 1) (.int .u8 9) HS2.out.2.2.2.2.2)
          have HW4 := Lib.hid (And.intro hw4 (HVal.id (j := k) hvl3 (.int .u8 9))); clear hw4 hvl3 hw3 hwf HFL HS2 hv hv2
          go_wp2_with fail
          go_roundw
          case rel => exact ⟨k + 1, by omega, by go_num, HW4.out.1, HW4.out.2⟩
          case measure => simp [intOf]; omega
        · go_upto_region 11 with fail
          clear g4r hvl
          go_loopw [4] (fun i wr => ∃ k : Nat, k ≤ nc ∧ i = .int .i64 k ∧ Wr (fun g => lo ≤ g ∧ g < hi) w1 wr) (fun i _ => nc - (intOf i).toNat)
          case atStart => exact ⟨0, by omega, rfl, hwS⟩
          clear hwS
          case round =>
            obtain ⟨k, hk, rfl, hwS⟩ := hrel
            have gr : wr.cell? ⟨s, 8, none⟩ = some (.slice A3 nc c3) := hwS.keep HG.out.2.1 HN.out.1
            have fn := HF.out.2.1
            by_cases hlt : k < nc
            · obtain ⟨b, o, rfl, h1, h2, ht⟩ := HX.out.2.2.1 (by omega)
              have ht2 : wr.there b (o + k * 4) (#[.int .u8 99, .int .u8 0, .int .u8 0, .int .u8 0] : Array Value).size := there_sub (hwS.there ht) (k * 4) 4 (by have : (k + 1) * 4 ≤ nc * 4 := Nat.mul_le_mul_right _ (by omega); omega)
              have hw2 := hwS.trans (Wr.cells (S := fun g => lo ≤ g ∧ g < hi) wr b (o + k * 4) (#[.int .u8 99, .int .u8 0, .int .u8 0, .int .u8 0] : Array Value).toList ⟨h1, h2⟩)
              obtain ⟨w2, he⟩ : ∃ w2, wr.setCells b (o + k * 4) (#[.int .u8 99, .int .u8 0, .int .u8 0, .int .u8 0] : Array Value).toList = w2 := ⟨_, rfl⟩
              rw [he] at hw2
              have HT := Lib.hid (And.intro ht2 (And.intro hw2 he)); clear ht2 hw2 he ht h1 h2 hwS
              have hk0 : 0 ≤ (k : Int) := by omega
              have hkn : (k : Int) < (nc : Int) := by omega
              go_wp2_with (refine wpList_store_mid rfl _ _ _ rfl b (o + k * 4) (#[.int .u8 99, .int .u8 0, .int .u8 0, .int .u8 0] : Array Value) rfl rfl HT.out.1 comp_size comp_one ?_; rw [HT.out.2.2])
              go_roundw
              case rel => exact ⟨k + 1, by omega, by go_num, HT.out.2.1⟩
              case measure => simp [intOf]; omega
            · go_upto_region 15 with fail
              clear gr
              go_loopw [5] (fun i wr => ∃ k : Nat, k ≤ np ∧ i = .int .i64 k ∧ Wr (fun g => lo ≤ g ∧ g < hi) w1 wr) (fun i _ => np - (intOf i).toNat)
              case atStart => exact ⟨0, by omega, rfl, hwS⟩
              clear hwS
              case round =>
                obtain ⟨k, hk, rfl, hwS⟩ := hrel
                have gr : wr.cell? ⟨s, 9, none⟩ = some (.slice A4 np c4) := hwS.keep HG.out.2.2.1 HN.out.1
                have fn := HF.out.2.2.1
                by_cases hlt : k < np
                · obtain ⟨b, o, rfl, h1, h2, ht⟩ := HX.out.2.2.2.1 (by omega)
                  have ht2 : wr.there b (o + k * 3) (#[.int .i64 9, .int .u8 0, .int .u8 0] : Array Value).size := there_sub (hwS.there ht) (k * 3) 3 (by have : (k + 1) * 3 ≤ np * 3 := Nat.mul_le_mul_right _ (by omega); omega)
                  have hw2 := hwS.trans (Wr.cells (S := fun g => lo ≤ g ∧ g < hi) wr b (o + k * 3) (#[.int .i64 9, .int .u8 0, .int .u8 0] : Array Value).toList ⟨h1, h2⟩)
                  obtain ⟨w2, he⟩ : ∃ w2, wr.setCells b (o + k * 3) (#[.int .i64 9, .int .u8 0, .int .u8 0] : Array Value).toList = w2 := ⟨_, rfl⟩
                  rw [he] at hw2
                  have HT := Lib.hid (And.intro ht2 (And.intro hw2 he)); clear ht2 hw2 he ht h1 h2 hwS
                  have hk0 : 0 ≤ (k : Int) := by omega
                  have hkn : (k : Int) < (np : Int) := by omega
                  go_wp2_with (refine wpList_store_mid rfl _ _ _ rfl b (o + k * 3) (#[.int .i64 9, .int .u8 0, .int .u8 0] : Array Value) rfl rfl HT.out.1 part_size part_one ?_; rw [HT.out.2.2])
                  go_roundw
                  case rel => exact ⟨k + 1, by omega, by go_num, HT.out.2.1⟩
                  case measure => simp [intOf]; omega
                · have g10 := hwS.keep HG.out.2.2.2 HN.out.1
                  have hfl := fillW A5 ni c5 wr (by have := HF.out.2.2.2; omega) (fun hn => by
                    obtain ⟨b, o, e, _, _, ht⟩ := HX.out.2.2.2.2 hn
                    rw [Nat.mul_one] at ht
                    exact ⟨b, o, e, hwS.there ht⟩)
                  have HFL := Lib.hid hfl; clear hfl
                  go_wp2_with fail
                  refine HFL.out.mono ?_
                  rintro e w3 ⟨⟨r, rfl⟩, hwf⟩
                  have hw3 := hwS.trans (hwf.mono HX.out.2.2.2.2.mono)
                  have HW3 := Lib.hid (HW.out.trans hw3); clear hw3 hwf HFL
                  go_wp2_with fail
                  refine bodyPost_end (results_none (by rfl) _ _ _) (by rfl) ?_
                  exact ⟨⟨_, rfl⟩, HW3.out⟩
end Go.Proofs.YtjfgfoeenajneaaGreatDoor.Sg
