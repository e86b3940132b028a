/- The program's bytes of a scan's header. -/
import Derived.Test.YtjfgfoeenajneaaGreatDoorGB3
namespace Go.Proofs.YtjfgfoeenajneaaGreatDoor.Sg
open Go.RowKit

def VI (s : Nat) (vi : Value) (b o k x g dc ac : Nat) (u : World) : Prop := u.cell? ⟨s, 10, none⟩ = some vi ∧ u.cell? ⟨b, o + k, none⟩ = some (.int .u8 (x : Int)) ∧ u.cell? ⟨g, 1, none⟩ = some (.int .u8 (dc : Int)) ∧ u.cell? ⟨g, 2, none⟩ = some (.int .u8 (ac : Int))
theorem VI.drewN {s : Nat} {vi : Value} {b o k x g dc ac : Nat} {u : World} (h : VI s vi b o k x g dc ac u) (n : Nat) : VI s vi b o k x g dc ac (u.drewN n) := h
set_option maxRecDepth 100000 in
set_option maxHeartbeats 16000000 in
theorem written_s (m : SegM) (vq vh vc vp vi : Value) (w : World) (hm : SegAt w m vq vh vc vp vi) (hok : SegOk m) (hcode : m.code = 218) :
    Calls Tryz.prog 53 #[.agg (segC m vq vh vc vp vi)] w (WrS w (dataM m)) := by
  have hdm := dataM_s hcode
  obtain ⟨A, c1, rfl, hids⟩ := hm.i
  obtain ⟨B, c2, rfl, hprt⟩ := hm.p
  have hu : Blk (w.alloc (.cells (segC m vq vh vc (.slice B m.parts.length c2) (.slice A m.ids.length c1)) 31)) w.heap.size 31 (segC m vq vh vc (.slice B m.parts.length c2) (.slice A m.ids.length c1)) := Blk.new w _ _
  have hb : Below w.heap.size w (w.alloc (.cells (segC m vq vh vc (.slice B m.parts.length c2) (.slice A m.ids.length c1)) 31)) := (Below.refl _ _).alloc (Nat.le_refl _) _
  have g0 : (w.alloc (.cells (segC m vq vh vc (.slice B m.parts.length c2) (.slice A m.ids.length c1)) 31)).cell? ⟨w.heap.size, 0, none⟩ = some (.int .u8 218) := by rw [hu.cell]; unfold segC; rw [hcode]; rfl
  have g9 : (w.alloc (.cells (segC m vq vh vc (.slice B m.parts.length c2) (.slice A m.ids.length c1)) 31)).cell? ⟨w.heap.size, 9, none⟩ = some (.slice B m.parts.length c2) := by rw [hu.cell]; rfl
  have g10 : (w.alloc (.cells (segC m vq vh vc (.slice B m.parts.length c2) (.slice A m.ids.length c1)) 31)).cell? ⟨w.heap.size, 10, none⟩ = some (.slice A m.ids.length c1) := by rw [hu.cell]; rfl
  obtain ⟨hpl, hat⟩ := rows_at (by decide) (fun p _ => (rfl : (partC p).length = 3)) hprt
  have hid8 := hok.ids
  have hpd := hok.parts
  have hfi := hok.fewI
  have hfp := hok.fewP
  clear hm hok hcode hprt
  obtain ⟨ib, ib1, ib2, ib3, ib4⟩ := info_parts infoB
  have IB := Lib.hid (And.intro ib1 (And.intro ib2 (And.intro ib3 ib4))); clear ib1 ib2 ib3 ib4
  go_enter Tryz.func53, Tryz.ntmps53
  go_upto_region 1 with fail
  generalize (segC m vq vh vc (.slice B m.parts.length c2) (.slice A m.ids.length c1)) = sv at *
  generalize (w.alloc (.cells sv 31)) = w1 at *
  generalize hs : w.heap.size = s at g0 g9 g10 hu ⊢
  obtain ⟨base, hbs⟩ : ∃ base, w.heap.size = base := ⟨_, rfl⟩
  have HS := Lib.hid (And.intro hs hbs); clear hs hbs
  have hbase : base ≤ w1.heap.size := by have := hb.size; have := HS.out.2; omega
  generalize dataM m = R at *
  generalize m.ids = ids at *
  generalize m.parts = ps at *
  obtain ⟨n, hn⟩ : ∃ n, ids.length = n := ⟨_, rfl⟩
  obtain ⟨k0, hk0⟩ : ∃ k, ps.length = k := ⟨_, rfl⟩
  rw [hn] at g10 hids hfi
  rw [hk0] at g9 hpl hat hfp
  clear hpl
  have HL := Lib.hid (And.intro hn hk0)
  have HDM := Lib.hid hdm; clear hdm
  have hbd : (k0 < 1 ∨ 4 < k0 ∨ n ≠ k0) → R = .bad 155 := fun h => by
    rw [HDM.out]
    unfold scanT
    rw [if_pos (by rw [hk0, hn]; exact h)]
  clear hn hk0
  have HBD := Lib.hid hbd; clear hbd
  have HAT := Lib.hid hat; clear hat
  have HU := Lib.hid hu; clear hu
  have HG9 := Lib.hid g9
  have HG10 := Lib.hid g10
  have HV := Lib.hid (And.intro hid8 hpd); clear hid8 hpd
  have HID := Lib.hid hids; clear hids
  by_cases h1 : k0 < 1
  · have hr := HBD.out (.inl h1)
    have HR := Lib.hid hr; clear hr
    go_wp2_with fail
    go_ret2
    rw [HR.out]
    exact ⟨rfl, hb⟩
  by_cases h2 : 4 < k0
  · have hr := HBD.out (.inr (.inl h2))
    have HR := Lib.hid hr; clear hr
    go_wp2_with fail
    go_ret2
    rw [HR.out]
    exact ⟨rfl, hb⟩
  by_cases h3 : n = k0
  case neg =>
    have hr := HBD.out (.inr (.inr h3))
    have HR := Lib.hid hr; clear hr
    have h3b : ((n : Int) != (k0 : Int)) = true := by simp; omega
    have h3c : ¬ (n : Int) = (k0 : Int) := by omega
    have h3d : (n != k0) = true := by simpa using h3
    go_wp2_with fail
    go_ret2
    rw [HR.out]
    exact ⟨rfl, hb⟩
  subst h3
  have hgd : R = if ps.any (fun p => decide (3 < p.dc ∨ 3 < p.ac)) then .bad 155 else .ok (UInt8.ofNat ps.length :: ((ids.zip ps).flatMap partB ++ [0, 63, 0])) := by
    rw [HDM.out]
    unfold scanT
    rw [if_neg (by rw [HL.out.1, HL.out.2]; omega)]
  have HGD := Lib.hid hgd; clear hgd HBD HDM
  obtain ⟨b, o, rfl, hc1⟩ := HID.out.2 (by omega)
  obtain ⟨b', o', rfl, hc2⟩ := HAT.out (by omega)
  have HC := Lib.hid (And.intro hc1 hc2); clear hc1 hc2 HAT HID
  have h1b : ((n : Int) != (n : Int)) = false := by simp
  have hn4 : (n : Int) ≤ 4 := by omega
  have HB := Lib.hid hb; clear hb
  have hown := OwnB.nil w1 base
  go_upto_region 51 with fail
  generalize Value.slice none 0 0 = v0 at hown ⊢
  go_upto_region 52 with (at_builtin; refine wpList_append_lies _ rfl (.tmp 201) (.tmp 206) 29 rfl base 5 ib (.int .u8 0) 1 1 Tryz.underlying29 IB.out.1 IB.out.2.1 IB.out.2.2.1 IB.out.2.2.2 rfl (by decide) _ 0 (u8s (nats [])) rfl (hown.alloc _) ⟨w1.heap.size, 0, none⟩ 1 1 [.int .u8 (n : Int)] rfl rfl (laid_new _ _ _) (by intro u hu; simp at hu; (try rcases hu with rfl | rfl | rfl) <;> (try subst hu) <;> rfl) (by decide) (by unfold maxLen; omega) (by omega) (by simp; omega) (w1.heap.size + 1) (by simp) ?_; intro gg cap w6 hown6 hgrow6 hat6 hlt6)
  have hwb : w.heap.size ≤ base := by have := HS.out.2; omega
  have hb6 := grown_app HB.out hown hwb _ hgrow6
  have hu6 := blk_app hown HU.out (by decide) _ hgrow6
  have hown7 := app_own hown6 (one_cells n (by omega)) rfl
  clear hgrow6 hown6 hat6 hlt6 hown hbase g0 g9 g10
  generalize (Value.slice (some ⟨gg, 0, none⟩) (0 + 1) cap) = v6 at hown7 ⊢
  generalize hB0 : UInt8.ofNat n = B0 at hown7
  have HB0 := Lib.hid hB0; clear hB0
  have g9 : w6.cell? ⟨s, 9, none⟩ = some (.slice (some ⟨b', o', none⟩) n c2) := by rw [hu6.cell, ← HU.out.cell, HG9.out]
  go_upto_region 53 with fail
  clear g9
  go_loopw [4, 211] (fun v i wr => ∃ k : Nat, k ≤ n ∧ i = .int .i64 k ∧ OwnB wr base v (B0 :: ((ids.zip ps).take k).flatMap partB) ∧ (ps.take k).any (fun p => decide (3 < p.dc ∨ 3 < p.ac)) = false ∧ Blk wr s 31 sv ∧ Below w.heap.size w wr) (fun _ i _ => n - (intOf i).toNat)
  case atStart => exact ⟨0, by omega, rfl, by simpa using hown7, rfl, hu6, hb6⟩
  clear hown7 hu6 hb6
  case round =>
    obtain ⟨k, hk, rfl, hown, hbad, hus, hbk⟩ := hrel
    have HBAD := Lib.hid hbad; clear hbad
    have hbsz : base ≤ wr.heap.size := by have := hbk.size; have := HS.out.2; omega
    by_cases hlt : k < n
    · obtain ⟨x, hx⟩ : ∃ x, ids[k]? = some x := ⟨ids[k]'(by rw [HL.out.1]; exact hlt), List.getElem?_eq_getElem _⟩
      obtain ⟨p, hp⟩ : ∃ p, ps[k]? = some p := ⟨ps[k]'(by rw [HL.out.2]; exact hlt), List.getElem?_eq_getElem _⟩
      have hx8 := HV.out.1 x (List.mem_of_getElem? hx)
      have hp8 := HV.out.2 p (List.mem_of_getElem? hp)
      have dw : w.cell? ⟨b, o + k, none⟩ = some (.int .u8 (x : Int)) := (by
        rw [HC.out.1 k hlt, u8s_get (by rw [HL.out.1]; exact hlt), List.getD_eq_getElem?_getD, hx]
        rfl)
      have d0 := below_cell hbk dw
      have d9 : wr.cell? ⟨b', o' + k * 3, none⟩ = some (.int .i64 p.comp) := below_cell hbk (HC.out.2 k p hp 0 _ rfl)
      have d1 : wr.cell? ⟨b', o' + k * 3 + 1, none⟩ = some (.int .u8 (p.dc : Int)) := below_cell hbk (HC.out.2 k p hp 1 _ rfl)
      have d2 : wr.cell? ⟨b', o' + k * 3 + 2, none⟩ = some (.int .u8 (p.ac : Int)) := below_cell hbk (HC.out.2 k p hp 2 _ rfl)
      have hnx : ((ids.zip ps).take (k + 1)).flatMap partB = ((ids.zip ps).take k).flatMap partB ++ [UInt8.ofNat x, UInt8.ofNat (16 * p.dc + p.ac)] := by
        rw [zip_next hx hp, List.flatMap_append]
        simp [partB]
      have hany : (ps.take (k + 1)).any (fun p => decide (3 < p.dc ∨ 3 < p.ac)) = decide (3 < p.dc ∨ 3 < p.ac) := by
        rw [take_next hp, List.any_append, HBAD.out]
        simp
      have htl := partB_len ((ids.zip ps).take k)
      rw [List.length_take] at htl
      generalize ((ids.zip ps).take k).flatMap partB = t at htl hnx hown
      have htl' : t.length ≤ 8 := by omega
      have hfin : (3 < p.dc ∨ 3 < p.ac) → R = .bad 155 := fun h => by
        rw [decide_eq_true h] at hany
        rw [HGD.out, any_of_take hany]
        rfl
      have HFIN := Lib.hid hfin
      have HNX := Lib.hid (And.intro hnx hany); clear hnx hany htl hfin hx hp
      generalize p.dc = dc at d1 hp8 HFIN HNX
      generalize p.ac = ac at d2 hp8 HFIN HNX
      generalize p.comp = pc at d9
      have y0 : 0 ≤ (k : Int) := by omega
      have y1 : (k : Int) < (n : Int) := by omega
      go_upto_region 55 with fail
      have hu9 := Blk.new wr 92 #[.int .i64 pc, .int .u8 (dc : Int), .int .u8 (ac : Int)]
      have hus9 := hus.alloc (.cells #[.int .i64 pc, .int .u8 (dc : Int), .int .u8 (ac : Int)] 92)
      have hown9 := OwnB.below hown (w' := wr.alloc (.cells #[.int .i64 pc, .int .u8 (dc : Int), .int .u8 (ac : Int)] 92)) ((Below.refl _ _).alloc (Nat.le_refl _) _)
      have hb9 : Below w.heap.size w (wr.alloc (.cells #[.int .i64 pc, .int .u8 (dc : Int), .int .u8 (ac : Int)] 92)) := hbk.alloc (hbk.size) _
      have e0 : (wr.alloc (.cells #[.int .i64 pc, .int .u8 (dc : Int), .int .u8 (ac : Int)] 92)).cell? ⟨b, o + k, none⟩ = some (.int .u8 (x : Int)) := by rw [World.cell?_alloc_lt wr _ _ (World.block_lt_of_cell? wr _ d0)]; exact d0
      generalize (wr.alloc (.cells #[.int .i64 pc, .int .u8 (dc : Int), .int .u8 (ac : Int)] 92)) = w9 at hu9 hus9 hown9 hb9 e0 ⊢
      generalize wr.heap.size = g at hu9 hbsz ⊢
      have f1 : w9.cell? ⟨g, 1, none⟩ = some (.int .u8 (dc : Int)) := by rw [hu9.cell]; rfl
      have f2 : w9.cell? ⟨g, 2, none⟩ = some (.int .u8 (ac : Int)) := by rw [hu9.cell]; rfl
      clear d0 d9 d1 d2 hown hus hbk hbsz
      by_cases h5 : 3 < dc
      · have hr := HFIN.out (.inl h5)
        have HR := Lib.hid hr; clear hr
        go_wp2_with fail
        go_ret2
        rw [HR.out]
        exact ⟨rfl, hb9⟩
      by_cases h6 : 3 < ac
      · have hr := HFIN.out (.inr h6)
        have HR := Lib.hid hr; clear hr
        go_wp2_with fail
        go_ret2
        rw [HR.out]
        exact ⟨rfl, hb9⟩
      have z2 : (dc : Int) ≤ 3 := by omega
      have z3 : (ac : Int) ≤ 3 := by omega
      have ysh : IntKind.u8.wrap ((dc : Int) * 16) = 16 * (dc : Int) := by rw [IntKind.wrap_u8']; omega
      have hor : bits .or .u8 (16 * (dc : Int)) (ac : Int) = 16 * (dc : Int) + (ac : Int) := by
        have h9 := u8_or_nat (16 * dc) ac (by omega) (by omega)
        have h8 := Nat.two_pow_add_eq_or_of_lt (i := 4) (b := ac) (by omega) dc
        rw [show 2 ^ 4 * dc = 16 * dc from rfl] at h8
        rw [← h8] at h9
        simpa using h9
      have hI : VI s (.slice (some ⟨b, o, none⟩) n c1) b o k x g dc ac w9 := ⟨by rw [hus9.cell, ← HU.out.cell, HG10.out], e0, f1, f2⟩
      go_upto_region 57 with fail
      clear e0 f1 f2
      refine Lex3.wp_region_lex [] (VI s (.slice (some ⟨b, o, none⟩) n c1) b o k x g dc ac) (fun u n h => h) hI (by kernel_rfl) (by kernel_rfl) ?_
      try simp only [Act.put, zA, zB, zC]
      iterate 2 (refine Lex3.run_free (v := ?_) (by rfl) (by rfl) (fun u => ?_) ?_; rotate_left; (go_simp; try with_reducible rfl); simp only [Act.put, zA, zB, zC])
      refine Lex3.run_load (v := ?_) (by rfl) (by rfl) (fun u hu => ?_) ?_; rotate_left; (obtain ⟨hu0, hu1, hu2, hu3⟩ := hu; go_simp; try with_reducible rfl); simp only [Act.put, zA, zB, zC]
      iterate 2 (refine Lex3.run_free (v := ?_) (by rfl) (by rfl) (fun u => ?_) ?_; rotate_left; (go_simp; try with_reducible rfl); simp only [Act.put, zA, zB, zC])
      refine Lex3.run_load (v := ?_) (by rfl) (by rfl) (fun u hu => ?_) ?_; rotate_left; (obtain ⟨hu0, hu1, hu2, hu3⟩ := hu; go_simp; try with_reducible rfl); simp only [Act.put, zA, zB, zC]
      refine Lex3.run_free (v := ?_) (by rfl) (by rfl) (fun u => ?_) ?_; rotate_left; (go_simp; try with_reducible rfl); simp only [Act.put, zA, zB, zC]
      refine Lex3.run_load (v := ?_) (by rfl) (by rfl) (fun u hu => ?_) ?_; rotate_left; (obtain ⟨hu0, hu1, hu2, hu3⟩ := hu; go_simp; try with_reducible rfl); simp only [Act.put, zA, zB, zC]
      iterate 2 (refine Lex3.run_free (v := ?_) (by rfl) (by rfl) (fun u => ?_) ?_; rotate_left; (go_simp; try with_reducible rfl); simp only [Act.put, zA, zB, zC])
      refine Lex3.run_load (v := ?_) (by rfl) (by rfl) (fun u hu => ?_) ?_; rotate_left; (obtain ⟨hu0, hu1, hu2, hu3⟩ := hu; go_simp; try with_reducible rfl); simp only [Act.put, zA, zB, zC]
      refine Lex3.run_free (v := ?_) (by rfl) (by rfl) (fun u => ?_) ?_; rotate_left; (go_simp; try with_reducible rfl); simp only [Act.put, zA, zB, zC]
      refine Lex3.run_eff (by rfl) (by rfl) (fun n1 K1 hK1 => ?_)
      go_simp
      have hI2 := hI.drewN (1 + n1)
      have hus2 := hus9.drewN (1 + n1)
      have hu2 := hu9.drewN (1 + n1)
      have hown2 : OwnB (w9.drewN (1 + n1)) base _ (B0 :: t) := hown9
      have hb2 := below_drewN hb9 (1 + n1)
      have hsz2 : base ≤ (w9.drewN (1 + n1)).heap.size := by have := hb2.size; have := HS.out.2; omega
      have hsb : w9.heap.size = (w9.drewN (1 + n1)).heap.size := rfl
      rw [hsb]
      clear hsb hI hus9 hu9 hown9 hb9
      generalize w9.drewN (1 + n1) = wB at hI2 hus2 hu2 hown2 hb2 hsz2 ⊢
      refine hK1 _ _ ?_ ?_
      · obtain ⟨i1, i2, i3, i4⟩ := hI2
        exact ⟨by rw [World.cell?_alloc_lt _ _ _ (World.block_lt_of_cell? wB _ i1)]; exact i1, by rw [World.cell?_alloc_lt _ _ _ (World.block_lt_of_cell? wB _ i2)]; exact i2, by rw [World.cell?_alloc_lt _ _ _ (World.block_lt_of_cell? wB _ i3)]; exact i3, by rw [World.cell?_alloc_lt _ _ _ (World.block_lt_of_cell? wB _ i4)]; exact i4⟩
      clear hK1 K1
      try simp only [Act.put, zA, zB, zC]
      refine Lex3.run_eff (by rfl) (by rfl) (fun n2 K2 hK2 => ?_)
      refine wp_append_lies _ (.tmp 224) (.tmp 236) 29 rfl base 5 ib (.int .u8 0) 1 1 Tryz.underlying29 IB.out.1 IB.out.2.1 IB.out.2.2.1 IB.out.2.2.2 rfl (by decide) _ (B0 :: t).length (u8s (nats (B0 :: t))) (by rfl) (show World.ownsRow _ _ _ _ _ _ _ from hown2.alloc (.cells #[.int .u8 (x : Int), .int .u8 (16 * (dc : Int) + (ac : Int))] 5)) ⟨wB.heap.size, 0, none⟩ 2 2 [.int .u8 (x : Int), .int .u8 (16 * (dc : Int) + (ac : Int))] (by rfl) rfl (show ∀ i u, _ → World.cell? _ _ = _ from laid_new wB _ [.int .u8 (x : Int), .int .u8 (16 * (dc : Int) + (ac : Int))]) (by intro u hu; simp at hu; rcases hu with rfl | rfl <;> rfl) (by decide) (by unfold maxLen; simp only [List.length_cons]; omega) (by simp only [List.length_cons]; omega) (show base ≤ (wB.alloc (.cells #[.int .u8 (x : Int), .int .u8 (16 * (dc : Int) + (ac : Int))] 5)).heap.size by simp; omega) (wB.heap.size + 1) (show (wB.alloc (.cells #[.int .u8 (x : Int), .int .u8 (16 * (dc : Int) + (ac : Int))] 5)).heap.size = _ by simp) ?_
      intro gg cap w7 hown7 hgrow7 hat7 hlt7
      have hgrow8 : (wB.alloc (.cells #[.int .u8 (x : Int), .int .u8 (16 * (dc : Int) + (ac : Int))] 5)).grownBy w7 _ := ⟨hgrow7.os, hgrow7.tape, hgrow7.output, hgrow7.size, hgrow7.block⟩
      have hb7 := grown_app hb2 hown2 hwb _ hgrow8
      have hus7 := blk_app hown2 hus2 (by decide) _ hgrow8
      have hu7 := blk_app hown2 hu2 (by decide) _ hgrow8
      have hnews : ([.int .u8 (x : Int), .int .u8 (16 * (dc : Int) + (ac : Int))] : List Value) = u8s (nats [UInt8.ofNat x, UInt8.ofNat (16 * dc + ac)]) := by
        unfold u8s nats
        simp
        omega
      have hown8 := app_own hown7 hnews rfl
      refine hK2 _ _ ⟨by rw [hus7.cell, ← HU.out.cell, HG10.out], below_cell hb7 dw, by rw [hu7.cell]; rfl, by rw [hu7.cell]; rfl⟩ ?_
      clear hK2 K2
      try simp only [Act.put, zA, zB, zC]
      refine Lex3.run_free (v := ?_) (by rfl) (by rfl) (fun u => ?_) ?_; rotate_left; (go_simp; try with_reducible rfl); simp only [Act.put, zA, zB, zC]
      refine Lex3.run_nil (fun n3 => ?_)
      have hb8 := below_drewN hb7 n3
      have hus8 := hus7.drewN n3
      have hown9 : OwnB (w7.drewN n3) base _ _ := hown8
      clear hgrow7 hgrow8 hown7 hown8 hb7 hus7 hu7
      generalize w7.drewN n3 = w8 at hb8 hus8 hown9 ⊢
      go_wp2_with fail
      go_roundw
      case rel => exact ⟨k + 1, by omega, by go_num, by rw [HNX.out.1]; exact hown9, by rw [HNX.out.2]; exact decide_eq_false (by omega), hus8, hb8⟩
      case measure => simp [intOf]; omega
    · obtain rfl : k = n := by omega
      have hall : (ids.zip ps).take k = ids.zip ps := List.take_of_length_le (by rw [List.length_zip, HL.out.1, HL.out.2]; omega)
      have hal2 : ps.take k = ps := List.take_of_length_le (by rw [HL.out.2]; exact Nat.le_refl _)
      have hb9 := HBAD.out
      rw [hal2] at hb9
      rw [hall] at hown
      have hres : R = .ok (UInt8.ofNat ps.length :: ((ids.zip ps).flatMap partB ++ [0, 63, 0])) := by rw [HGD.out, hb9]; rfl
      rw [HL.out.2, HB0.out] at hres
      have htl := partB_len (ids.zip ps)
      rw [List.length_zip, HL.out.1, HL.out.2] at htl
      have HR := Lib.hid hres; clear hres hall hal2 hb9
      generalize hU : (B0 :: (ids.zip ps).flatMap partB) = U at hown
      have hul : U.length ≤ 9 := by rw [← hU, List.length_cons]; omega
      have HU2 := Lib.hid hU; clear hU htl
      go_wp2_with (at_builtin; refine wpList_append_lies _ rfl (.tmp 239) (.tmp 240) 29 rfl base 5 ib (.int .u8 0) 1 1 Tryz.underlying29 IB.out.1 IB.out.2.1 IB.out.2.2.1 IB.out.2.2.2 rfl (by decide) _ (U).length (u8s (nats (U))) rfl (hown.alloc _) ⟨wr.heap.size, 0, none⟩ 3 3 [.int .u8 0, .int .u8 63, .int .u8 0] rfl rfl (laid_new _ _ _) (by intro u hu; simp at hu; (try rcases hu with rfl | rfl | rfl) <;> (try subst hu) <;> rfl) (by decide) (by unfold maxLen; omega) (by omega) (by simp; omega) (wr.heap.size + 1) (by simp) ?_; intro gg cap w6 hown6 hgrow6 hat6 hlt6)
      have hb7 := grown_app hbk hown hwb _ hgrow6
      have hown7 := app_own hown6 (show _ = u8s (nats [0, 63, 0]) from rfl) rfl
      go_ret2
      rw [HR.out]
      refine wr_s (r := .ok _) ⟨_, rfl, ?_, hb7⟩
      rw [HS.out.2, show (B0 :: ((ids.zip ps).flatMap partB ++ [0, 63, 0])) = U ++ [0, 63, 0] by rw [← HU2.out]; rfl]
      exact hown7
end Go.Proofs.YtjfgfoeenajneaaGreatDoor.Sg
