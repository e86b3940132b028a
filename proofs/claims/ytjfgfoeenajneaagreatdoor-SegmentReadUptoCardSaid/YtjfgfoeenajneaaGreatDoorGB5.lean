/- The program's bytes of tables of codes. -/
import Derived.Test.YtjfgfoeenajneaaGreatDoorGB4
namespace Go.Proofs.YtjfgfoeenajneaaGreatDoor.Sg
open Go.RowKit

def huffR (l : List HuffM) : Res (List UInt8) := if l.any huffBad then .bad 153 else .ok (l.flatMap huffB)
def HJ (g cls id : Nat) (v : Value) (u : World) : Prop := u.cell? ⟨g, 0, none⟩ = some (.int .u8 (cls : Int)) ∧ u.cell? ⟨g, 1, none⟩ = some (.int .u8 (id : Int)) ∧ u.cell? ⟨g, 18, none⟩ = some v
theorem grown_app0 {a w w' : World} {v : Value} {base : Nat} {l : List UInt8} (hb : Below a.heap.size a w) (hv : OwnB w base v l) (hba : a.heap.size ≤ base) (hg : w.grownBy w' v.ownBlock) : Below a.heap.size a w' :=
  grown_below (grown_own (below_grown hb none) hg fun _ e => .inl (Nat.le_trans hba (own_base hv e)))
theorem blk_app0 {w w' : World} {v : Value} {base g : Nat} {t : TypeId} {cs : Array Value} {l : List UInt8} (hv : OwnB w base v l) (hg : Blk w g t cs) (ht : t ≠ 5) (hk : w.grownBy w' v.ownBlock) : Blk w' g t cs :=
  hg.keeps (hk.block g hg.lt (fun e => own_ne hv hg ht e.symm))
set_option maxRecDepth 100000 in
set_option maxHeartbeats 32000000 in
theorem written_h (m : SegM) (vq vh vc vp vi : Value) (w : World) (hm : SegAt w m vq vh vc vp vi) (hok : SegOk m) (hcode : m.code = 196) :
    Calls Tryz.prog 53 #[.agg (segC m vq vh vc vp vi)] w (WrP w (huffR m.huffs)) := by
  obtain ⟨A, c1, ps, rfl, hps, hrow, hsl⟩ := hm.h
  have hu : Blk (w.alloc (.cells (segC m vq (.slice A m.huffs.length c1) vc vp vi) 31)) w.heap.size 31 (segC m vq (.slice A m.huffs.length c1) vc vp vi) := Blk.new w _ _
  have hb : Below w.heap.size w (w.alloc (.cells (segC m vq (.slice A m.huffs.length c1) vc vp vi) 31)) := (Below.refl _ _).alloc (Nat.le_refl _) _
  have g0 : (w.alloc (.cells (segC m vq (.slice A m.huffs.length c1) vc vp vi) 31)).cell? ⟨w.heap.size, 0, none⟩ = some (.int .u8 196) := by rw [hu.cell]; unfold segC; rw [hcode]; rfl
  have g4 : (w.alloc (.cells (segC m vq (.slice A m.huffs.length c1) vc vp vi) 31)).cell? ⟨w.heap.size, 4, none⟩ = some (.slice A m.huffs.length c1) := by rw [hu.cell]; rfl
  have hq8 : ∀ p ∈ ps, HuffOk p.1 := fun p hp => hok.huffs _ (by rw [← hps]; exact List.mem_map_of_mem hp)
  have hfew := hok.fewH
  obtain ⟨hln, hat⟩ := rows_at (by decide) (fun p hm => huffC_length (hq8 p hm).len) hrow
  clear hm hok hcode hrow hu
  have hnl : ps.length = m.huffs.length := by rw [← hps, List.length_map]
  clear hln
  generalize m.huffs.length = n at *
  have HN := Lib.hid hnl; clear hnl
  have HAT := Lib.hid hat; clear hat
  have HQ := Lib.hid hq8; clear hq8
  have HV := Lib.hid hsl; clear hsl
  have HPS := Lib.hid hps; clear hps
  obtain ⟨ib, ib1, ib2, ib3, ib4⟩ := info_parts infoB
  have IB := Lib.hid (And.intro ib1 (And.intro ib2 (And.intro ib3 ib4))); clear ib1 ib2 ib3 ib4
  go_enter Tryz.func53, Tryz.ntmps53
  go_upto_region 1 with fail
  generalize (segC m vq (.slice A n c1) vc vp vi) = sv at *
  generalize (w.alloc (.cells sv 31)) = w1 at *
  generalize hs : w.heap.size = s at g0 g4 ⊢
  obtain ⟨base, hbs⟩ : ∃ base, w.heap.size = base := ⟨_, rfl⟩
  have HS := Lib.hid (And.intro hs hbs); clear hs hbs
  have HB := Lib.hid hb
  have hwb : w.heap.size ≤ base := by have := HS.out.2; omega
  go_upto_region 26 with fail
  clear g0 g4 hb
  go_loopw [4, 84] (fun v i wr => ∃ k : Nat, k ≤ n ∧ i = .int .i64 k ∧ OwnB wr base v (((ps.take k).map (·.1)).flatMap huffB) ∧ ((ps.take k).map (·.1)).any huffBad = false ∧ Below w.heap.size w wr) (fun _ i _ => n - (intOf i).toNat)
  case atStart => exact ⟨0, by omega, rfl, OwnB.nil _ _, rfl, HB.out⟩
  case round =>
    obtain ⟨k, hk, rfl, hown, hbad, hb⟩ := hrel
    have HBAD := Lib.hid hbad; clear hbad
    by_cases hlt : k < n
    · obtain ⟨b, o, rfl, hat⟩ := HAT.out (by omega)
      obtain ⟨p, hqk⟩ : ∃ p, ps[k]? = some p := ⟨ps[k]'(by rw [HN.out]; exact hlt), List.getElem?_eq_getElem _⟩
      have hok := HQ.out p (List.mem_of_getElem? hqk)
      have HOK := Lib.hid hok
      obtain ⟨va, vc2, hva, hvw, hv0⟩ := HV.out p (List.mem_of_getElem? hqk)
      have hvs := hvw.below hb
      have HVW := Lib.hid hvw; clear hvw
      have HRE := Lib.hid (range_below (hat k p hqk) hb)
      have HS19 := Lib.hid (show (Tryz.prog.info? 87).map (·.size) = some (huffC p).length by rw [huffC_length hok.len]; exact size19)
      have hi1 : (Tryz.prog.info? 87).map (·.size) = some (huffC p).toArray.size := by rw [List.size_toArray, huffC_length hok.len]; exact size19
      have hi2 : (#[.int .u8 0, .int .u8 0, .int .u8 0, .int .u8 0, .int .u8 0, .int .u8 0, .int .u8 0, .int .u8 0, .int .u8 0, .int .u8 0, .int .u8 0, .int .u8 0, .int .u8 0, .int .u8 0, .int .u8 0, .int .u8 0, .int .u8 0, .int .u8 0, .slice none 0 0] : Array Value).size = (huffC p).toArray.size := by rw [show (huffC p).toArray.size = 19 from by rw [List.size_toArray, huffC_length hok.len]]; rfl
      have hi3 : (huffC p).toArray.all (·.oneCell') = true := by
        rw [Array.all_eq_true_iff_forall_mem]
        intro u hu
        exact huffC_one p (by rw [hva]; rfl) u (by simpa using hu)
      have HI := Lib.hid (And.intro hi1 (And.intro hi2 hi3)); clear hi1 hi2 hi3
      have hlen := huffs_len HBAD.out (fun h hm => by
        rw [List.mem_map] at hm
        obtain ⟨x, hx, rfl⟩ := hm
        exact (HQ.out x (List.mem_of_mem_take hx)).len)
      rw [List.length_map, List.length_take] at hlen
      have hanyn : ((ps.take (k + 1)).map (·.1)).any huffBad = huffBad p.1 := by rw [take_next hqk, List.map_append, List.any_append, HBAD.out]; simp
      have hflat : ((ps.take (k + 1)).map (·.1)).flatMap huffB = ((ps.take k).map (·.1)).flatMap huffB ++ huffB p.1 := by rw [take_next hqk, List.map_append, List.flatMap_append]; simp
      have HNX := Lib.hid (And.intro hanyn hflat); clear hanyn hflat
      generalize ((ps.take k).map (·.1)).flatMap huffB = t at hlen HNX hown
      have HQK := Lib.hid hqk; clear hqk hat
      have hlen' : t.length ≤ 10000000000 := by omega
      clear hlen hok
      go_upto_region 28 with (first | (refine wpList_load_mid rfl _ _ rfl b (o + k * 19) rfl _ _ HRE.out Tryz.underlying87 rfl HS19.out ?_) | (refine wpList_store_row rfl _ _ _ rfl _ _ rfl rfl _ _ (Blk.new wr _ _) HI.out.1 HI.out.2.1 HI.out.2.2 ?_))
      have hq2 : Blk ((wr.alloc (.cells #[.int .u8 0, .int .u8 0, .int .u8 0, .int .u8 0, .int .u8 0, .int .u8 0, .int .u8 0, .int .u8 0, .int .u8 0, .int .u8 0, .int .u8 0, .int .u8 0, .int .u8 0, .int .u8 0, .int .u8 0, .int .u8 0, .int .u8 0, .int .u8 0, .slice none 0 0] 87)).setRow wr.heap.size (huffC p).toArray) wr.heap.size 87 (huffC p).toArray := (Blk.new wr _ _).row
      have hb2 : Below wr.heap.size wr ((wr.alloc (.cells #[.int .u8 0, .int .u8 0, .int .u8 0, .int .u8 0, .int .u8 0, .int .u8 0, .int .u8 0, .int .u8 0, .int .u8 0, .int .u8 0, .int .u8 0, .int .u8 0, .int .u8 0, .int .u8 0, .int .u8 0, .int .u8 0, .int .u8 0, .int .u8 0, .slice none 0 0] 87)).setRow wr.heap.size (huffC p).toArray) := grown_below (grown_row (grown_alloc (grown_of_below (Below.refl _ _) none) _) (.inl (Nat.le_refl _)) _)
      generalize ((wr.alloc (.cells #[.int .u8 0, .int .u8 0, .int .u8 0, .int .u8 0, .int .u8 0, .int .u8 0, .int .u8 0, .int .u8 0, .int .u8 0, .int .u8 0, .int .u8 0, .int .u8 0, .int .u8 0, .int .u8 0, .int .u8 0, .int .u8 0, .int .u8 0, .int .u8 0, .slice none 0 0] 87)).setRow wr.heap.size (huffC p).toArray) = w2 at hq2 hb2 ⊢
      generalize hgg : wr.heap.size = g at hq2 ⊢
      have HGG := Lib.hid hgg; clear hgg
      have hvs2 := hvs.below hb2
      have hown' := hown.below hb2
      have hb3 := below_then hb hb2
      clear hb hb2 hvs hown
      have hown := hown'
      clear hown'
      have HS17 := Lib.hid (show (Tryz.prog.info? 85).map (·.size) = some (specC p.1.cnt p.2).length by
        unfold specC
        rw [List.length_append, u8s_length, HOK.out.len]
        exact size17)
      have HRG := Lib.hid (Blk.range hq2 2 _ (huffC_spec p))
      have e0 : w2.cell? ⟨g, 0, none⟩ = some (.int .u8 (p.1.cls : Nat)) := by rw [hq2.cell]; rfl
      have e1 : w2.cell? ⟨g, 1, none⟩ = some (.int .u8 (p.1.id : Nat)) := by rw [hq2.cell]; rfl
      have hbd : huffBad p.1 = (decide (1 < p.1.cls) || decide (3 < p.1.id) || !huffOk p.1.cnt p.1.vals) := rfl
      have hfin : huffBad p.1 = true → huffR m.huffs = .bad 153 := fun h => by
        rw [← HPS.out]
        have h8 := HNX.out.1.trans h
        rw [List.map_take] at h8
        have h9 := any_of_take h8
        unfold huffR
        rw [h9]
        rfl
      have HFIN := Lib.hid hfin; clear hfin
      have HVA := Lib.hid hva; clear hva
      by_cases h1 : 1 < p.1.cls
      · have hres := HFIN.out (by rw [hbd]; simp [h1])
        have HR := Lib.hid hres; clear hres hbd
        go_wp2_with fail
        go_ret2
        rw [HR.out]
        exact ⟨rfl, hb3⟩
      by_cases h3 : 3 < p.1.id
      · have hres := HFIN.out (by rw [hbd]; simp [h3])
        have HR := Lib.hid hres; clear hres hbd
        go_wp2_with fail
        go_ret2
        rw [HR.out]
        exact ⟨rfl, hb3⟩
      have hbd2 : huffBad p.1 = !huffOk p.1.cnt p.1.vals := by rw [hbd]; simp [h1, h3]
      have HBD := Lib.hid hbd2; clear hbd hbd2
      have hd1 : decide (1 < (p.1.cls : Int)) = false := decide_eq_false (by omega)
      have hd3 : decide (3 < (p.1.id : Int)) = false := decide_eq_false (by omega)
      go_upto_region 29 with (refine wpList_load_mid_g (by simp [Region.wanted, yielded]) _ _ rfl g 2 rfl _ _ HRG.out Tryz.underlying85 rfl HS17.out ?_)
      rw [HVA.out]
      refine (check_any p.1.cnt p.1.vals va p.1.vals.length vc2 w2 HOK.out.len HOK.out.cnt hvs2 HOK.out.vals HOK.out.few).mono ?_
      rintro e w4 ⟨c, rfl, hcz, hb4⟩
      have hq4 := hq2.kept hb4
      have hown4 := hown.below hb4
      have hb5 := below_then hb3 hb4
      by_cases hc0 : c = 0
      case neg =>
        have hres := HFIN.out (by
          rw [HBD.out]
          cases hh : huffOk p.1.cnt p.1.vals with
          | false => rfl
          | true => exact absurd (hcz.2 hh) hc0)
        have HR := Lib.hid hres; clear hres
        have hcb : ((c : Int) != 0) = true := by simpa using hc0
        have hcb2 : ¬ ((c : Int) = 0) := by omega
        go_wp2_with fail
        go_ret2
        rw [HR.out]
        exact ⟨rfl, hb5⟩
      subst hc0
      have hgood := hcz.1 rfl
      have hgd : huffBad p.1 = false := by rw [HBD.out, hgood]; rfl
      have HGOOD := Lib.hid hgd; clear hgd
      unfold huffOk at hgood
      simp only [Bool.and_eq_true, decide_eq_true_eq] at hgood
      obtain ⟨b', o', rfl, hcv⟩ := HVW.out.2 (by omega)
      have hn256 : p.1.vals.length ≤ 256 := by omega
      have hn0 : 0 < p.1.vals.length := by omega
      have HCV := Lib.hid hcv; clear hcv
      have hl16 := HOK.out.len
      have hcls : p.1.cls ≤ 1 := by omega
      have hid3 : p.1.id ≤ 3 := by omega
      clear hgood hcz e0 e1 hvs2 hown hq2 hb4 hb3
      have hsz4 : base ≤ w4.heap.size := by have := hb5.size; have := HS.out.2; omega
      have ysh : IntKind.u8.wrap ((p.1.cls : Int) * 16) = 16 * (p.1.cls : Int) := by rw [IntKind.wrap_u8']; omega
      have hor : bits .or .u8 (16 * (p.1.cls : Int)) (p.1.id : Int) = 16 * (p.1.cls : Int) + (p.1.id : Int) := by
        have h9 := u8_or_nat (16 * p.1.cls) p.1.id (by omega) (by omega)
        have h8 := Nat.two_pow_add_eq_or_of_lt (i := 4) (b := p.1.id) (by omega) p.1.cls
        rw [show 2 ^ 4 * p.1.cls = 16 * p.1.cls from rfl] at h8
        rw [← h8] at h9
        simpa using h9
      have hI : HJ g p.1.cls p.1.id (.slice (some ⟨b', o', none⟩) p.1.vals.length vc2) w4 := ⟨by rw [hq4.cell]; rfl, by rw [hq4.cell]; rfl, by rw [hq4.cell, huffC_val hl16, HVA.out]⟩
      go_upto_region 30 with fail
      refine Lex3.wp_region_lex [] (HJ g p.1.cls p.1.id (.slice (some ⟨b', o', none⟩) p.1.vals.length vc2)) (fun u n h => h) hI (by kernel_rfl) (by kernel_rfl) ?_
      try simp only [Act.put, zA, zB, zC]
      iterate 2 (refine Lex3.run_free (v := ?_) (by rfl) (by rfl) (fun u => ?_) ?_; rotate_left; (go_simp; try with_reducible rfl); simp only [Act.put, zA, zB, zC])
      refine Lex3.run_load (v := ?_) (by rfl) (by rfl) (fun u hu => ?_) ?_; rotate_left; (obtain ⟨hu0, hu1, hu2⟩ := hu; go_simp; try with_reducible rfl); simp only [Act.put, zA, zB, zC]
      iterate 2 (refine Lex3.run_free (v := ?_) (by rfl) (by rfl) (fun u => ?_) ?_; rotate_left; (go_simp; try with_reducible rfl); simp only [Act.put, zA, zB, zC])
      refine Lex3.run_load (v := ?_) (by rfl) (by rfl) (fun u hu => ?_) ?_; rotate_left; (obtain ⟨hu0, hu1, hu2⟩ := hu; go_simp; try with_reducible rfl); simp only [Act.put, zA, zB, zC]
      refine Lex3.run_free (v := ?_) (by rfl) (by rfl) (fun u => ?_) ?_; rotate_left; (go_simp; try with_reducible rfl); simp only [Act.put, zA, zB, zC]
      refine Lex3.run_eff (by rfl) (by rfl) (fun n1 K1 hK1 => ?_)
      go_simp
      have hI2 : HJ g p.1.cls p.1.id (.slice (some ⟨b', o', none⟩) p.1.vals.length vc2) (w4.drewN (1 + n1)) := hI
      have hq5 := hq4.drewN (1 + n1)
      have hown5 : OwnB (w4.drewN (1 + n1)) base _ t := hown4
      have hb6 := below_drewN hb5 (1 + n1)
      have hsz5 : base ≤ (w4.drewN (1 + n1)).heap.size := hsz4
      have hsb : w4.heap.size = (w4.drewN (1 + n1)).heap.size := rfl
      rw [hsb]
      clear hsb hI hq4 hown4 hb5 hsz4
      generalize w4.drewN (1 + n1) = wB at hI2 hq5 hown5 hb6 hsz5 ⊢
      refine hK1 _ _ ?_ ?_
      · obtain ⟨i1, i2, i3⟩ := hI2
        exact ⟨by rw [World.cell?_alloc_lt _ _ _ (World.block_lt_of_cell? wB _ i1)]; exact i1, by rw [World.cell?_alloc_lt _ _ _ (World.block_lt_of_cell? wB _ i2)]; exact i2, by rw [World.cell?_alloc_lt _ _ _ (World.block_lt_of_cell? wB _ i3)]; exact i3⟩
      clear hK1 K1
      try simp only [Act.put, zA, zB, zC]
      refine Lex3.run_eff (by rfl) (by rfl) (fun n2 K2 hK2 => ?_)
      refine wp_append_lies _ (.tmp 102) (.tmp 109) 29 rfl base 5 ib (.int .u8 0) 1 1 Tryz.underlying29 IB.out.1 IB.out.2.1 IB.out.2.2.1 IB.out.2.2.2 rfl (by decide) _ t.length (u8s (nats t)) (by rfl) (show World.ownsRow _ _ _ _ _ _ _ from hown5.alloc (.cells #[.int .u8 (16 * (p.1.cls : Int) + (p.1.id : Int))] 5)) ⟨wB.heap.size, 0, none⟩ 1 1 [.int .u8 (16 * (p.1.cls : Int) + (p.1.id : Int))] (by rfl) rfl (show ∀ i u, _ → World.cell? _ _ = _ from laid_new wB _ [.int .u8 (16 * (p.1.cls : Int) + (p.1.id : Int))]) (by intro u hu; simp at hu; rcases hu with rfl; rfl) (by decide) (by unfold maxLen; omega) (by omega) (show base ≤ (wB.alloc (.cells #[.int .u8 (16 * (p.1.cls : Int) + (p.1.id : Int))] 5)).heap.size by simp; omega) (wB.heap.size + 1) (show (wB.alloc (.cells #[.int .u8 (16 * (p.1.cls : Int) + (p.1.id : Int))] 5)).heap.size = _ by simp) ?_
      intro gg1 cap1 w6 hown6 hgrow6 hat6 hlt6
      have hgrow6' : (wB.alloc (.cells #[.int .u8 (16 * (p.1.cls : Int) + (p.1.id : Int))] 5)).grownBy w6 _ := ⟨hgrow6.os, hgrow6.tape, hgrow6.output, hgrow6.size, hgrow6.block⟩
      have hb7 := grown_app hb6 hown5 hwb _ hgrow6'
      have hq6 := blk_app hown5 hq5 (by decide) _ hgrow6'
      have hnews1 : ([.int .u8 (16 * (p.1.cls : Int) + (p.1.id : Int))] : List Value) = u8s (nats [UInt8.ofNat (16 * p.1.cls + p.1.id)]) := by
        rw [← one_cells _ (by omega)]
        simp
      have hown7 := app_own hown6 hnews1 rfl
      have hsz6 : base ≤ w6.heap.size := by have := hb7.size; have := HS.out.2; omega
      refine hK2 _ _ ⟨by rw [hq6.cell]; rfl, by rw [hq6.cell]; rfl, by rw [hq6.cell, huffC_val hl16, HVA.out]⟩ ?_
      clear hK2 K2 hgrow6 hgrow6' hown6 hat6 hlt6 hnews1 hI2 hq5 hown5 hb6
      generalize (Value.slice (some ⟨gg1, 0, none⟩) (t.length + 1) cap1) = v6 at hown7 ⊢
      have hL1 : (t ++ [UInt8.ofNat (16 * p.1.cls + p.1.id)]).length = t.length + 1 := by simp
      generalize hT1 : t ++ [UInt8.ofNat (16 * p.1.cls + p.1.id)] = t1 at hown7 hL1
      have HT1 := Lib.hid hT1; clear hT1
      try simp only [Act.put, zA, zB, zC]
      iterate 3 (refine Lex3.run_free (v := ?_) (by rfl) (by rfl) (fun u => ?_) ?_; rotate_left; (go_simp; try with_reducible rfl); simp only [Act.put, zA, zB, zC])
      refine Lex3.run_eff (by rfl) (by rfl) (fun n3 K3 hK3 => ?_)
      refine wp_append_lies _ (.tmp 110) (.tmp 113) 29 rfl base 5 ib (.int .u8 0) 1 1 Tryz.underlying29 IB.out.1 IB.out.2.1 IB.out.2.2.1 IB.out.2.2.2 rfl (by decide) _ t1.length (u8s (nats t1)) (by rfl) (show World.ownsRow _ _ _ _ _ _ _ from hown7) ⟨g, 2, none⟩ 16 16 (u8s p.1.cnt) (by rfl) (by rw [u8s_length, hl16]) (show ∀ i u, _ → World.cell? _ _ = _ from fun j u hj => by rw [Addr.add_mid]; exact Blk.range hq6 2 _ (huffC_spec p) j u (by unfold specC; rw [List.getElem?_append_left (List.getElem?_eq_some_iff.1 hj).1]; exact hj)) (by intro u hu; unfold u8s at hu; rw [List.mem_map] at hu; obtain ⟨x, _, rfl⟩ := hu; rfl) (by decide) (by unfold maxLen; omega) (by omega) hsz6 _ rfl ?_
      intro gg2 cap2 w7 hown8 hgrow7 hat7 hlt7
      have hgrow7' : w6.grownBy w7 _ := ⟨hgrow7.os, hgrow7.tape, hgrow7.output, hgrow7.size, hgrow7.block⟩
      have hb8 := grown_app0 hb7 hown7 hwb hgrow7'
      have hq7 := blk_app0 hown7 hq6 (by decide) hgrow7'
      have hown9 := app_own (m := p.1.cnt.map UInt8.ofNat) hown8 (by rw [nats_of HOK.out.cnt]) (by rw [List.length_map, hl16])
      have hsz7 : base ≤ w7.heap.size := by have := hb8.size; have := HS.out.2; omega
      refine hK3 _ _ ⟨by rw [hq7.cell]; rfl, by rw [hq7.cell]; rfl, by rw [hq7.cell, huffC_val hl16, HVA.out]⟩ ?_
      clear hK3 K3 hgrow7 hgrow7' hown8 hat7 hlt7 hown7 hq6 hb7
      generalize (Value.slice (some ⟨gg2, 0, none⟩) (t1.length + 16) cap2) = v7 at hown9 ⊢
      have hL2 : (t1 ++ p.1.cnt.map UInt8.ofNat).length = t.length + 17 := by rw [List.length_append, List.length_map, hL1, hl16]
      generalize hT2 : t1 ++ p.1.cnt.map UInt8.ofNat = t2 at hown9 hL2
      have HT2 := Lib.hid hT2; clear hT2
      try simp only [Act.put, zA, zB, zC]
      iterate 2 (refine Lex3.run_free (v := ?_) (by rfl) (by rfl) (fun u => ?_) ?_; rotate_left; (go_simp; try with_reducible rfl); simp only [Act.put, zA, zB, zC])
      refine Lex3.run_load (v := ?_) (by rfl) (by rfl) (fun u hu => ?_) ?_; rotate_left; (obtain ⟨hu0, hu1, hu2⟩ := hu; go_simp; try with_reducible rfl); simp only [Act.put, zA, zB, zC]
      refine Lex3.run_eff (by rfl) (by rfl) (fun n4 K4 hK4 => ?_)
      refine wp_append_lies _ (.tmp 114) (.tmp 117) 29 rfl base 5 ib (.int .u8 0) 1 1 Tryz.underlying29 IB.out.1 IB.out.2.1 IB.out.2.2.1 IB.out.2.2.2 rfl (by decide) _ t2.length (u8s (nats t2)) (by rfl) (show World.ownsRow _ _ _ _ _ _ _ from hown9) ⟨b', o', none⟩ p.1.vals.length vc2 (u8s p.1.vals) (by rfl) (by rw [u8s_length, Nat.mul_one]) (show ∀ i u, _ → World.cell? _ _ = _ from fun j u hj => by rw [Addr.add_mid]; exact below_cell hb8 ((HCV.out j (by have := (List.getElem?_eq_some_iff.1 hj).1; rw [u8s_length] at this; exact this)).trans hj)) (by intro u hu; unfold u8s at hu; rw [List.mem_map] at hu; obtain ⟨x, _, rfl⟩ := hu; rfl) hn0 (by unfold maxLen; omega) (by omega) hsz7 _ rfl ?_
      intro gg3 cap3 w8 hownA hgrow8 hat8 hlt8
      have hgrow8' : w7.grownBy w8 _ := ⟨hgrow8.os, hgrow8.tape, hgrow8.output, hgrow8.size, hgrow8.block⟩
      have hb9 := grown_app0 hb8 hown9 hwb hgrow8'
      have hq8 := blk_app0 hown9 hq7 (by decide) hgrow8'
      have hownB := app_own (m := p.1.vals.map UInt8.ofNat) hownA (by rw [nats_of HOK.out.vals]) (by rw [List.length_map])
      refine hK4 _ _ ⟨by rw [hq8.cell]; rfl, by rw [hq8.cell]; rfl, by rw [hq8.cell, huffC_val hl16, HVA.out]⟩ ?_
      clear hK4 K4 hgrow8 hgrow8' hownA hat8 hlt8 hown9 hq7 hb8
      have hT3 : t2 ++ p.1.vals.map UInt8.ofNat = t ++ huffB p.1 := by
        rw [← HT2.out, ← HT1.out]
        unfold huffB
        simp
      rw [hT3, hL2] at hownB
      try simp only [Act.put, zA, zB, zC]
      refine Lex3.run_free (v := ?_) (by rfl) (by rfl) (fun u => ?_) ?_; rotate_left; (go_simp; try with_reducible rfl); simp only [Act.put, zA, zB, zC]
      refine Lex3.run_nil (fun n5 => ?_)
      have hb10 := below_drewN hb9 n5
      have hownC : OwnB (w8.drewN n5) base _ _ := hownB
      clear hownB hb9 hq8
      generalize w8.drewN n5 = w9 at hb10 hownC ⊢
      go_wp2_with fail
      go_roundw
      case rel => exact ⟨k + 1, by omega, by go_num, by rw [HNX.out.2]; exact hownC, by rw [HNX.out.1]; exact HGOOD.out, hb10⟩
      case measure => simp [intOf]; omega
    · obtain rfl : k = n := by omega
      have hall : ps.take k = ps := List.take_of_length_le (by rw [HN.out]; exact Nat.le_refl _)
      have hb9 := HBAD.out
      rw [hall, HPS.out] at hb9 hown
      have hres : huffR m.huffs = .ok (m.huffs.flatMap huffB) := by unfold huffR; rw [hb9]; rfl
      have HR := Lib.hid hres; clear hres hb9 hall
      go_wp2_with fail
      go_ret2
      rw [HR.out]
      exact ⟨_, rfl, by rw [HS.out.2]; exact hown, hb⟩
end Go.Proofs.YtjfgfoeenajneaaGreatDoor.Sg
