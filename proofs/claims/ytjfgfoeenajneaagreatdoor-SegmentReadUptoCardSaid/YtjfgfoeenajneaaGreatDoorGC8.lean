/- A state takes a number of restarts. A state takes a segment that is kept. What a state hands out of what is kept. What the document's examples come to. The examples of the document: awake says true. -/
import Derived.Test.YtjfgfoeenajneaaGreatDoorGC6
import Derived.Test.YtjfgfoeenajneaaGreatDoorGB8
import Derived.Test.YtjfgfoeenajneaaGreatDoorGC4
import Derived.Laws.Cover3
import Derived.Test.YtjfgfoeenajneaaGreatDoorGC7
namespace Go.Proofs.YtjfgfoeenajneaaGreatDoor.Sg
open Go.RowKit

/-- all stands but one block -/
def Only (w w' : World) (g : Nat) : Prop := w.grownBy w' (some g)
set_option maxRecDepth 100000 in
set_option maxHeartbeats 16000000 in
theorem take_r (m : SegM) (vq vh vc vp vi : Value) (g : Nat) (cs : Array Value) (r0 : Int) (d : List UInt8) (w : World) (hm : SegAt w m vq vh vc vp vi) (hok : SegOk m) (hcode : m.code = 221) (hd : textM m = .ok d) (h : Blk w g 101 cs) (hr0 : cs[409]? = some (.int .i64 r0)) :
    Calls Tryz.prog 15 #[.pointer (some ⟨g, 0, none⟩), .agg (segC m vq vh vc vp vi)] w fun e w' => e = .returned (.int .i64 0) ∧ Blk w' g 101 (cs.setIfInBounds 409 (.int .i64 m.restart)) ∧ w.grownBy w' (some g) := by
  have hu := Blk.new w 31 (segC m vq vh vc vp vi)
  have hb : Below w.heap.size w (w.alloc (.cells (segC m vq vh vc vp vi) 31)) := (Below.refl _ _).alloc (Nat.le_refl _) _
  have ht := text_any m vq vh vc vp vi (w.alloc (.cells (segC m vq vh vc vp vi) 31)) (hm.below hb) hok
  rw [hd] at ht
  have hsz : (Tryz.prog.info? 31).map (·.size) = some (segC m vq vh vc vp vi).size := size13S
  have hg := h.kept hb
  have hlt := h.lt
  have HT := Lib.hid (And.intro ht hsz); clear ht hsz hm hok hd h
  have hc0 : (segC m vq vh vc vp vi)[0]? = some (.int .u8 221) := by unfold segC; rw [hcode]; rfl
  have hc11 : (segC m vq vh vc vp vi)[11]? = some (.int .i64 m.restart) := rfl
  clear hcode
  go_enter Tryz.func15, Tryz.ntmps15
  go_upto_region 1 with fail
  generalize w.alloc (.cells (segC m vq vh vc vp vi) 31) = w1 at hu hb hg HT ⊢
  generalize segC m vq vh vc vp vi = sv at hu HT hc0 hc11 ⊢
  generalize hs : w.heap.size = s at hu ⊢
  have HS := Lib.hid hs; clear hs
  go_wp2_with (refine wpList_load_row rfl _ _ rfl s rfl _ _ _ _ hu Tryz.underlying31 rfl HT.out.2 ?_)
  refine HT.out.1.mono ?_
  rintro e w2 ⟨rfl, hb2⟩
  have hu2 := hu.kept hb2
  have hg2 := hg.kept hb2
  have hb3 := below_then hb hb2
  clear hu hg hb hb2
  have g0 : w2.cell? ⟨s, 0, none⟩ = some (.int .u8 221) := by rw [hu2.cell, hc0]
  have g11 : w2.cell? ⟨s, 11, none⟩ = some (.int .i64 m.restart) := by rw [hu2.cell, hc11]
  have r9 : w2.cell? ⟨g, 409, none⟩ = some (.int .i64 r0) := by rw [hg2.cell, hr0]
  have f9 : w2.frozen? ⟨g, 409, none⟩ = false := hg2.frozen _
  have hg3 := hg2.set 409 (.int .i64 m.restart)
  have hgr := grown_set (below_grown hb3 (some g)) 409 (.int .i64 m.restart)
  have HG := Lib.hid (And.intro hg3 hgr); clear hg3 hgr hg2 hu2 hb3
  go_wp2_with fail
  go_ret
  exact ⟨rfl, HG.out.1, HG.out.2⟩
end Go.Proofs.YtjfgfoeenajneaaGreatDoor.Sg
namespace Go.Proofs.YtjfgfoeenajneaaGreatDoor.Sg
open Go.RowKit
open Go.Proofs.YtjfgfoeenajneaaGreatDoor.Lex (F)

theorem infoX : (Tryz.prog.info? 61).map (fun i => (i.zero, i.size, i.bytes)) = some (some (.agg #[.int .u8 0, .string (ByteArray.mk #[])]), 2, 24) := by kernel_rfl
set_option maxRecDepth 100000 in
set_option maxHeartbeats 16000000 in
theorem take_x (m : SegM) (vq vh vc vp vi : Value) (g base n : Nat) (cs : Array Value) (v : Value) (xs : List Value) (d : List UInt8) (w : World) (hm : SegAt w m vq vh vc vp vi) (hok : SegOk m) (hcode : 224 ≤ m.code ∧ m.code ≤ 239 ∨ m.code = 254) (hd : textM m = .ok d) (h : Blk w g 101 cs) (hv : cs[558]? = some v)
    (hown : w.ownsRow base 61 2 v n xs) (hgb : g < base) (hbw : base ≤ w.heap.size) (hn : n ≤ 1000000000) :
    Calls Tryz.prog 15 #[.pointer (some ⟨g, 0, none⟩), .agg (segC m vq vh vc vp vi)] w fun e w' => e = .returned (.int .i64 0) ∧ ∃ v', Blk w' g 101 (cs.setIfInBounds 558 v') ∧ w'.ownsRow base 61 2 v' (n + 1) (xs ++ [.int .u8 (m.code : Nat), .string (Bs m.data)]) ∧ But2 base g g w w' := by
  have hu := Blk.new w 31 (segC m vq vh vc vp vi)
  have hb : Below w.heap.size w (w.alloc (.cells (segC m vq vh vc vp vi) 31)) := (Below.refl _ _).alloc (Nat.le_refl _) _
  have ht := text_any m vq vh vc vp vi (w.alloc (.cells (segC m vq vh vc vp vi) 31)) (hm.below hb) hok
  rw [hd] at ht
  have hsz : (Tryz.prog.info? 31).map (·.size) = some (segC m vq vh vc vp vi).size := size13S
  have hg := h.kept hb
  have ho := own_keep hown (w' := w.alloc (.cells (segC m vq vh vc vp vi) 31)) (fun g hg => hb.block g (hown.lt g hg).2)
  have HT := Lib.hid (And.intro ht hsz); clear ht hsz hm hok hd h hown
  have hc0 : (segC m vq vh vc vp vi)[0]? = some (.int .u8 (m.code : Nat)) := rfl
  have hc12 : (segC m vq vh vc vp vi)[12]? = some (.string (Bs m.data)) := rfl
  go_enter Tryz.func15, Tryz.ntmps15
  go_upto_region 1 with fail
  generalize w.alloc (.cells (segC m vq vh vc vp vi) 31) = w1 at hu hb hg HT ho ⊢
  generalize segC m vq vh vc vp vi = sv at hu HT hc0 hc12 ⊢
  generalize hs : w.heap.size = s at hu ⊢
  have HS := Lib.hid hs; clear hs
  go_wp2_with (refine wpList_load_row rfl _ _ rfl s rfl _ _ _ _ hu Tryz.underlying31 rfl HT.out.2 ?_)
  refine HT.out.1.mono ?_
  rintro e w2 ⟨rfl, hb2⟩
  have hu2 := hu.kept hb2
  have hg2 := hg.kept hb2
  have hb3 := below_then hb hb2
  have ho2 := own_keep ho (w' := w2) (fun g hg => hb2.block g (ho.lt g hg).2)
  clear hu hg hb hb2 ho
  generalize hcm : m.code = c at *
  generalize hdm : m.data = dt at *
  have HCM := Lib.hid (And.intro hcm hdm); clear hcm hdm
  have g0 : w2.cell? ⟨s, 0, none⟩ = some (.int .u8 (c : Int)) := by rw [hu2.cell, hc0]
  have g12 : w2.cell? ⟨s, 12, none⟩ = some (.string (Bs dt)) := by rw [hu2.cell, hc12]
  have x9 : w2.cell? ⟨g, 558, none⟩ = some v := by rw [hg2.cell, hv]
  have hB2 : But2 base g g w w2 := But2.of_below (hb3.mono hbw)
  have hz2 : base ≤ w2.heap.size := Nat.le_trans hbw hb3.size
  have p1 : ((c : Int) == 219) = false := beq_false_of_ne (by omega)
  have p2 : ((c : Int) == 196) = false := beq_false_of_ne (by omega)
  have p3 : ((c : Int) == 192) = false := beq_false_of_ne (by omega)
  have p4 : ((c : Int) == 193) = false := beq_false_of_ne (by omega)
  have p5 : ((c : Int) == 218) = false := beq_false_of_ne (by omega)
  have p6 : ((c : Int) == 221) = false := beq_false_of_ne (by omega)
  have p7 : (224 : Int) ≤ c := by omega
  have hsb : base ≤ s := by have := HS.out; omega
  have HU2 := Lib.hid (And.intro hu2 hc0)
  have HD12 := Lib.hid hc12; clear hc12
  obtain ⟨ix, ix1, ix2, ix3, ix4⟩ := info_parts infoX
  obtain ⟨zx, hzx⟩ : ∃ z, z = Value.agg #[.int .u8 0, .string (ByteArray.mk #[])] := ⟨_, rfl⟩
  rw [← hzx] at ix2
  have ix5 : zx.cells.size = 2 := by rw [hzx]; rfl
  clear hzx hb3 hc0
  have IX := Lib.hid (And.intro ix1 (And.intro ix2 (And.intro ix3 (And.intro ix4 ix5)))); clear ix1 ix2 ix3 ix4 ix5
  have hI : w2.cell? ⟨g, 558, none⟩ = some v ∧ w2.cell? ⟨s, 0, none⟩ = some (.int .u8 (c : Int)) ∧ w2.cell? ⟨s, 12, none⟩ = some (.string (Bs dt)) := ⟨x9, g0, g12⟩
  obtain hcase | hcase : c ≤ 239 ∨ c = 254 := by omega
  · have p8 : (c : Int) ≤ 239 := by omega
    clear hcode
    go_upto_region 20 with fail
    refine LexZ.wp_region [] 14 rfl _ rfl rfl (fun u => u.cell? ⟨g, 558, none⟩ = some v ∧ u.cell? ⟨s, 0, none⟩ = some (.int .u8 (c : Int)) ∧ u.cell? ⟨s, 12, none⟩ = some (.string (Bs dt))) (fun u n h => h) hI (by kernel_rfl) ?_
    refine LexZ.take 0 (by rfl) (by kernel_rfl) (Lex4.free_ (v := ?_) (by rfl) (by rfl) (fun u => ?_) ?_); rotate_left; (go_simp; try with_reducible rfl); simp only [Act.put, zA, zB, zC]
    refine LexZ.take 1 (by rfl) (by kernel_rfl) (Lex4.free_ (v := ?_) (by rfl) (by rfl) (fun u => ?_) ?_); rotate_left; (go_simp; try with_reducible rfl); simp only [Act.put, zA, zB, zC]
    refine LexZ.take 2 (by rfl) (by kernel_rfl) (Lex4.free_ (v := ?_) (by rfl) (by rfl) (fun u => ?_) ?_); rotate_left; (go_simp; try with_reducible rfl); simp only [Act.put, zA, zB, zC]
    refine LexZ.take 3 (by rfl) (by kernel_rfl) (Lex4.free_ (v := ?_) (by rfl) (by rfl) (fun u => ?_) ?_); rotate_left; (go_simp; try with_reducible rfl); simp only [Act.put, zA, zB, zC]
    refine LexZ.take 4 (by rfl) (by kernel_rfl) (Lex4.load_ (v := ?_) (by rfl) (by rfl) (fun u hu => ?_) ?_); rotate_left; (obtain ⟨hu0, hu1, hu2⟩ := hu; go_simp; try with_reducible rfl); simp only [Act.put, zA, zB, zC]
    refine LexZ.take 5 (by rfl) (by kernel_rfl) (Lex4.free_ (v := ?_) (by rfl) (by rfl) (fun u => ?_) ?_); rotate_left; (go_simp; try with_reducible rfl); simp only [Act.put, zA, zB, zC]
    refine LexZ.take 6 (by rfl) (by kernel_rfl) (Lex4.load_ (v := ?_) (by rfl) (by rfl) (fun u hu => ?_) ?_); rotate_left; (obtain ⟨hu0, hu1, hu2⟩ := hu; go_simp; try with_reducible rfl); simp only [Act.put, zA, zB, zC]
    refine LexZ.take 7 (by rfl) (by kernel_rfl) (Lex4.free_ (v := ?_) (by rfl) (by rfl) (fun u => ?_) ?_); rotate_left; (go_simp; try with_reducible rfl); simp only [Act.put, zA, zB, zC]
    refine LexZ.take 8 (by rfl) (by kernel_rfl) (Lex4.load_ (v := ?_) (by rfl) (by rfl) (fun u hu => ?_) ?_); rotate_left; (obtain ⟨hu0, hu1, hu2⟩ := hu; go_simp; try with_reducible rfl); simp only [Act.put, zA, zB, zC]
    refine LexZ.take 9 (by rfl) (by kernel_rfl) (Lex4.free_ (v := ?_) (by rfl) (by rfl) (fun u => ?_) ?_); rotate_left; (go_simp; try with_reducible rfl); simp only [Act.put, zA, zB, zC]
    refine LexZ.take 10 (by rfl) (by kernel_rfl) (Lex4.eff_ (by rfl) (by rfl) (fun n1 K1 hK1 => ?_))
    have hu6 : Blk (w2.drew.drewN n1) s 31 sv := hu2
    have hg6 : Blk (w2.drew.drewN n1) g 101 cs := hg2
    have ho6 : (w2.drew.drewN n1).ownsRow base 61 2 v n xs := ho2
    have hb6 : But2 base g g w (w2.drew.drewN n1) := (hB2.drew 1).drew n1
    have hz6 : base ≤ (w2.drew.drewN n1).heap.size := hz2
    clear hu2 hg2 ho2 hB2 hz2 hI x9 g0 g12
    generalize w2.drew.drewN n1 = W1 at hu6 hg6 ho6 hb6 hz6 ⊢
    refine wp_buildOne 57 61 (.tmp 114) rfl #[.int .u8 (c : Int), .string (Bs dt)] rfl ix zx 2 Tryz.underlying57 IX.out.1 IX.out.2.1 IX.out.2.2.1 rfl (by decide) (by decide) ?_
    have hu7 := hu6.alloc (.cells #[.int .u8 (c : Int), .string (Bs dt)] 61)
    have hg7 := hg6.alloc (.cells #[.int .u8 (c : Int), .string (Bs dt)] 61)
    have ho7 := ho6.alloc (.cells #[.int .u8 (c : Int), .string (Bs dt)] 61)
    have hb7 : But2 base g g w (W1.alloc (.cells #[.int .u8 (c : Int), .string (Bs dt)] 61)) := hb6.trans (But2.of_below ((Below.refl _ _).alloc hz6 _))
    have hn7 := Blk.new W1 61 #[.int .u8 (c : Int), .string (Bs dt)]
    have hz7 : base ≤ (W1.alloc (.cells #[.int .u8 (c : Int), .string (Bs dt)] 61)).heap.size := by simp; omega
    refine hK1 _ _ ⟨by rw [hg7.cell, hv], (hu7.cell 0).trans HU2.out.2, by rw [hu7.cell]; exact HD12.out⟩ ?_
    clear hu6 hg6 ho6 hb6 hK1 K1
    generalize hbn : W1.heap.size = bn at hn7 hz6 ⊢
    generalize W1.alloc (.cells #[.int .u8 (c : Int), .string (Bs dt)] 61) = W2 at hu7 hg7 ho7 hb7 hn7 hz7 ⊢
    clear hbn
    try simp only [Act.put, zA, zB, zC]
    refine LexZ.take 11 (by rfl) (by kernel_rfl) (Lex4.eff_ (by rfl) (by rfl) (fun n2 K2 hK2 => ?_))
    have hu8 : Blk (W2.drewN n2) s 31 sv := hu7
    have hg8 : Blk (W2.drewN n2) g 101 cs := hg7
    have ho8 : (W2.drewN n2).ownsRow base 61 2 v n xs := ho7
    have hb8 : But2 base g g w (W2.drewN n2) := hb7.drew n2
    have hn8 : Blk (W2.drewN n2) bn 61 #[.int .u8 (c : Int), .string (Bs dt)] := hn7
    have hz8 : base ≤ (W2.drewN n2).heap.size := hz7
    clear hu7 hg7 ho7 hb7 hn7 hz7
    generalize W2.drewN n2 = W3 at hu8 hg8 ho8 hb8 hn8 hz8 ⊢
    refine wp_append_lies W3 (.tmp 109) (.tmp 115) 57 rfl base 61 ix zx 2 24 Tryz.underlying57 IX.out.1 IX.out.2.1 IX.out.2.2.1 IX.out.2.2.2.1 IX.out.2.2.2.2 (by decide) v n xs (by rfl) ho8 ⟨bn, 0, none⟩ 1 1 [.int .u8 (c : Int), .string (Bs dt)] (by rfl) rfl (fun i u hu => by rw [Addr.add_mid, hn8.cell, Nat.zero_add]; simpa using hu) (by intro u hu; simp at hu; rcases hu with rfl | rfl <;> rfl) (by decide) (by unfold maxLen; omega) (by omega) hz8 W3.heap.size rfl ?_
    intro gg cap2 W4 ho9 hgr9 hat9 hlt9
    have hne : ∀ g, v.ownBlock = some g → base ≤ g := fun g e => (ho8.lt g e).1
    have hg9 := hg8.grown hgr9 (fun e => by have := hne g e.symm; omega)
    have hu9 := hu8.grown hgr9 (fun e => row_ne ho8 hu8 (by decide) e.symm)
    have hb9 := hb8.trans (But2.of_grown hgr9 (fun g e => .inr (.inr (hne g e))) hz8)
    refine hK2 _ _ ⟨by rw [hg9.cell, hv], (hu9.cell 0).trans HU2.out.2, by rw [hu9.cell]; exact HD12.out⟩ ?_
    clear hK2 K2 hu8 hg8 ho8 hb8 hn8 hu9
    try simp only [Act.put, zA, zB, zC]
    refine LexZ.take 12 (by rfl) (by kernel_rfl) (Lex4.free_ (v := ?_) (by rfl) (by rfl) (fun u => ?_) ?_); rotate_left; (go_simp; try with_reducible rfl); simp only [Act.put, zA, zB, zC]
    refine LexZ.take 13 (by rfl) (by kernel_rfl) (Lex4.free_ (v := ?_) (by rfl) (by rfl) (fun u => ?_) ?_); rotate_left; (go_simp; try with_reducible rfl); simp only [Act.put, zA, zB, zC]
    refine LexZ.done (by kernel_rfl) (by kernel_rfl) (fun n9 => ?_)
    have hg10 : Blk (W4.drewN n9) g 101 cs := hg9
    have hb10 := hb9.drew n9
    have hz10 : base ≤ (W4.drewN n9).heap.size := Nat.le_trans hz8 hgr9.size
    have ho10 : (W4.drewN n9).ownsRow base 61 2 (.slice (some ⟨gg, 0, none⟩) (n + 1) cap2) (n + 1) (xs ++ [.int .u8 (c : Int), .string (Bs dt)]) := ho9
    clear hg9 ho9 hb9 hgr9 hat9 hlt9
    generalize W4.drewN n9 = W5 at hg10 ho10 hb10 hz10 ⊢
    have hc10 : W5.cell? ⟨g, 558, none⟩ = some v := by rw [hg10.cell, hv]
    have hf10 : W5.frozen? ⟨g, 558, none⟩ = false := hg10.frozen _
    have hg11 := hg10.set 558 (.slice (some ⟨gg, 0, none⟩) (n + 1) cap2)
    have ho11 := own_keep ho10 (w' := W5.setCell ⟨g, 558, none⟩ (.slice (some ⟨gg, 0, none⟩) (n + 1) cap2)) (fun g' hg' => Below.heap_setCell W5 _ _ g' (by have := (ho10.lt g' hg').1; show g' ≠ g; omega))
    have hb11 : But2 base g g w (W5.setCell ⟨g, 558, none⟩ (.slice (some ⟨gg, 0, none⟩) (n + 1) cap2)) := hb10.trans (But2.of_grown (w5_one W5 g _) (fun g' e => .inl (by injection e with e; exact e.symm)) hz10)
    have HF := Lib.hid (And.intro hg11 (And.intro ho11 hb11)); clear hg11 ho11 hb11 hg10 ho10 hb10
    go_simp
    go_wp2_with fail
    go_ret
    rw [HCM.out.1, HCM.out.2]
    exact ⟨rfl, _, HF.out.1, HF.out.2.1, HF.out.2.2⟩
  · subst hcase
    clear hcode p1 p2 p3 p4 p5 p6 p7
    go_upto_region 20 with fail
    refine LexZ.wp_region [] 14 rfl _ rfl rfl (fun u => u.cell? ⟨g, 558, none⟩ = some v ∧ u.cell? ⟨s, 0, none⟩ = some (.int .u8 254) ∧ u.cell? ⟨s, 12, none⟩ = some (.string (Bs dt))) (fun u n h => h) hI (by kernel_rfl) ?_
    refine LexZ.take 0 (by rfl) (by kernel_rfl) (Lex4.free_ (v := ?_) (by rfl) (by rfl) (fun u => ?_) ?_); rotate_left; (go_simp; try with_reducible rfl); simp only [Act.put, zA, zB, zC]
    refine LexZ.take 1 (by rfl) (by kernel_rfl) (Lex4.free_ (v := ?_) (by rfl) (by rfl) (fun u => ?_) ?_); rotate_left; (go_simp; try with_reducible rfl); simp only [Act.put, zA, zB, zC]
    refine LexZ.take 2 (by rfl) (by kernel_rfl) (Lex4.free_ (v := ?_) (by rfl) (by rfl) (fun u => ?_) ?_); rotate_left; (go_simp; try with_reducible rfl); simp only [Act.put, zA, zB, zC]
    refine LexZ.take 3 (by rfl) (by kernel_rfl) (Lex4.free_ (v := ?_) (by rfl) (by rfl) (fun u => ?_) ?_); rotate_left; (go_simp; try with_reducible rfl); simp only [Act.put, zA, zB, zC]
    refine LexZ.take 4 (by rfl) (by kernel_rfl) (Lex4.load_ (v := ?_) (by rfl) (by rfl) (fun u hu => ?_) ?_); rotate_left; (obtain ⟨hu0, hu1, hu2⟩ := hu; go_simp; try with_reducible rfl); simp only [Act.put, zA, zB, zC]
    refine LexZ.take 5 (by rfl) (by kernel_rfl) (Lex4.free_ (v := ?_) (by rfl) (by rfl) (fun u => ?_) ?_); rotate_left; (go_simp; try with_reducible rfl); simp only [Act.put, zA, zB, zC]
    refine LexZ.take 6 (by rfl) (by kernel_rfl) (Lex4.load_ (v := ?_) (by rfl) (by rfl) (fun u hu => ?_) ?_); rotate_left; (obtain ⟨hu0, hu1, hu2⟩ := hu; go_simp; try with_reducible rfl); simp only [Act.put, zA, zB, zC]
    refine LexZ.take 7 (by rfl) (by kernel_rfl) (Lex4.free_ (v := ?_) (by rfl) (by rfl) (fun u => ?_) ?_); rotate_left; (go_simp; try with_reducible rfl); simp only [Act.put, zA, zB, zC]
    refine LexZ.take 8 (by rfl) (by kernel_rfl) (Lex4.load_ (v := ?_) (by rfl) (by rfl) (fun u hu => ?_) ?_); rotate_left; (obtain ⟨hu0, hu1, hu2⟩ := hu; go_simp; try with_reducible rfl); simp only [Act.put, zA, zB, zC]
    refine LexZ.take 9 (by rfl) (by kernel_rfl) (Lex4.free_ (v := ?_) (by rfl) (by rfl) (fun u => ?_) ?_); rotate_left; (go_simp; try with_reducible rfl); simp only [Act.put, zA, zB, zC]
    refine LexZ.take 10 (by rfl) (by kernel_rfl) (Lex4.eff_ (by rfl) (by rfl) (fun n1 K1 hK1 => ?_))
    have hu6 : Blk (w2.drew.drewN n1) s 31 sv := hu2
    have hg6 : Blk (w2.drew.drewN n1) g 101 cs := hg2
    have ho6 : (w2.drew.drewN n1).ownsRow base 61 2 v n xs := ho2
    have hb6 : But2 base g g w (w2.drew.drewN n1) := (hB2.drew 1).drew n1
    have hz6 : base ≤ (w2.drew.drewN n1).heap.size := hz2
    clear hu2 hg2 ho2 hB2 hz2 hI x9 g0 g12
    generalize w2.drew.drewN n1 = W1 at hu6 hg6 ho6 hb6 hz6 ⊢
    refine wp_buildOne 57 61 (.tmp 114) rfl #[.int .u8 254, .string (Bs dt)] rfl ix zx 2 Tryz.underlying57 IX.out.1 IX.out.2.1 IX.out.2.2.1 rfl (by decide) (by decide) ?_
    have hu7 := hu6.alloc (.cells #[.int .u8 254, .string (Bs dt)] 61)
    have hg7 := hg6.alloc (.cells #[.int .u8 254, .string (Bs dt)] 61)
    have ho7 := ho6.alloc (.cells #[.int .u8 254, .string (Bs dt)] 61)
    have hb7 : But2 base g g w (W1.alloc (.cells #[.int .u8 254, .string (Bs dt)] 61)) := hb6.trans (But2.of_below ((Below.refl _ _).alloc hz6 _))
    have hn7 := Blk.new W1 61 #[.int .u8 254, .string (Bs dt)]
    have hz7 : base ≤ (W1.alloc (.cells #[.int .u8 254, .string (Bs dt)] 61)).heap.size := by simp; omega
    refine hK1 _ _ ⟨by rw [hg7.cell, hv], (hu7.cell 0).trans HU2.out.2, by rw [hu7.cell]; exact HD12.out⟩ ?_
    clear hu6 hg6 ho6 hb6 hK1 K1
    generalize hbn : W1.heap.size = bn at hn7 hz6 ⊢
    generalize W1.alloc (.cells #[.int .u8 254, .string (Bs dt)] 61) = W2 at hu7 hg7 ho7 hb7 hn7 hz7 ⊢
    clear hbn
    try simp only [Act.put, zA, zB, zC]
    refine LexZ.take 11 (by rfl) (by kernel_rfl) (Lex4.eff_ (by rfl) (by rfl) (fun n2 K2 hK2 => ?_))
    have hu8 : Blk (W2.drewN n2) s 31 sv := hu7
    have hg8 : Blk (W2.drewN n2) g 101 cs := hg7
    have ho8 : (W2.drewN n2).ownsRow base 61 2 v n xs := ho7
    have hb8 : But2 base g g w (W2.drewN n2) := hb7.drew n2
    have hn8 : Blk (W2.drewN n2) bn 61 #[.int .u8 254, .string (Bs dt)] := hn7
    have hz8 : base ≤ (W2.drewN n2).heap.size := hz7
    clear hu7 hg7 ho7 hb7 hn7 hz7
    generalize W2.drewN n2 = W3 at hu8 hg8 ho8 hb8 hn8 hz8 ⊢
    refine wp_append_lies W3 (.tmp 109) (.tmp 115) 57 rfl base 61 ix zx 2 24 Tryz.underlying57 IX.out.1 IX.out.2.1 IX.out.2.2.1 IX.out.2.2.2.1 IX.out.2.2.2.2 (by decide) v n xs (by rfl) ho8 ⟨bn, 0, none⟩ 1 1 [.int .u8 254, .string (Bs dt)] (by rfl) rfl (fun i u hu => by rw [Addr.add_mid, hn8.cell, Nat.zero_add]; simpa using hu) (by intro u hu; simp at hu; rcases hu with rfl | rfl <;> rfl) (by decide) (by unfold maxLen; omega) (by omega) hz8 W3.heap.size rfl ?_
    intro gg cap2 W4 ho9 hgr9 hat9 hlt9
    have hne : ∀ g, v.ownBlock = some g → base ≤ g := fun g e => (ho8.lt g e).1
    have hg9 := hg8.grown hgr9 (fun e => by have := hne g e.symm; omega)
    have hu9 := hu8.grown hgr9 (fun e => row_ne ho8 hu8 (by decide) e.symm)
    have hb9 := hb8.trans (But2.of_grown hgr9 (fun g e => .inr (.inr (hne g e))) hz8)
    refine hK2 _ _ ⟨by rw [hg9.cell, hv], (hu9.cell 0).trans HU2.out.2, by rw [hu9.cell]; exact HD12.out⟩ ?_
    clear hK2 K2 hu8 hg8 ho8 hb8 hn8 hu9
    try simp only [Act.put, zA, zB, zC]
    refine LexZ.take 12 (by rfl) (by kernel_rfl) (Lex4.free_ (v := ?_) (by rfl) (by rfl) (fun u => ?_) ?_); rotate_left; (go_simp; try with_reducible rfl); simp only [Act.put, zA, zB, zC]
    refine LexZ.take 13 (by rfl) (by kernel_rfl) (Lex4.free_ (v := ?_) (by rfl) (by rfl) (fun u => ?_) ?_); rotate_left; (go_simp; try with_reducible rfl); simp only [Act.put, zA, zB, zC]
    refine LexZ.done (by kernel_rfl) (by kernel_rfl) (fun n9 => ?_)
    have hg10 : Blk (W4.drewN n9) g 101 cs := hg9
    have hb10 := hb9.drew n9
    have hz10 : base ≤ (W4.drewN n9).heap.size := Nat.le_trans hz8 hgr9.size
    have ho10 : (W4.drewN n9).ownsRow base 61 2 (.slice (some ⟨gg, 0, none⟩) (n + 1) cap2) (n + 1) (xs ++ [.int .u8 254, .string (Bs dt)]) := ho9
    clear hg9 ho9 hb9 hgr9 hat9 hlt9
    generalize W4.drewN n9 = W5 at hg10 ho10 hb10 hz10 ⊢
    have hc10 : W5.cell? ⟨g, 558, none⟩ = some v := by rw [hg10.cell, hv]
    have hf10 : W5.frozen? ⟨g, 558, none⟩ = false := hg10.frozen _
    have hg11 := hg10.set 558 (.slice (some ⟨gg, 0, none⟩) (n + 1) cap2)
    have ho11 := own_keep ho10 (w' := W5.setCell ⟨g, 558, none⟩ (.slice (some ⟨gg, 0, none⟩) (n + 1) cap2)) (fun g' hg' => Below.heap_setCell W5 _ _ g' (by have := (ho10.lt g' hg').1; show g' ≠ g; omega))
    have hb11 : But2 base g g w (W5.setCell ⟨g, 558, none⟩ (.slice (some ⟨gg, 0, none⟩) (n + 1) cap2)) := hb10.trans (But2.of_grown (w5_one W5 g _) (fun g' e => .inl (by injection e with e; exact e.symm)) hz10)
    have HF := Lib.hid (And.intro hg11 (And.intro ho11 hb11)); clear hg11 ho11 hb11 hg10 ho10 hb10
    go_simp
    go_wp2_with fail
    go_ret
    rw [HCM.out.1, HCM.out.2]
    exact ⟨rfl, _, HF.out.1, HF.out.2.1, HF.out.2.2⟩
end Go.Proofs.YtjfgfoeenajneaaGreatDoor.Sg
namespace Go.Proofs.YtjfgfoeenajneaaGreatDoor.Sg
open Go.RowKit

theorem run_eql_slice_nil {P : Program} (w : World) (t e : TypeId) (a : Option Addr) (l c : Nat) (h : P.underlying t = some (.slice e)) : (binOp .eql t (.slice a l c) (.slice none 0 0)).run P w = .ok (.bool a.isNone) w := by
  simp only [binOp]
  simp [run_equal_slice_nil w t e a l c h]
set_option maxRecDepth 100000 in
set_option maxHeartbeats 8000000 in
theorem cloneX_any (base n : Nat) (v : Value) (xs : List Value) (w : World) (hown : w.ownsRow base 61 2 v n xs) (h0 : n = 0 → v = .slice none 0 0) (hone : ∀ u ∈ xs, u.oneCell' = true) (hn : n ≤ 1000000000) :
    Calls Tryz.prog 55 #[v] w fun e w' => ∃ v', e = .returned v' ∧ w'.ownsRow w.heap.size 61 2 v' n xs ∧ (n = 0 → v' = .slice none 0 0) ∧ Below w.heap.size w w' := by
  by_cases hz : n = 0
  · subst hz
    obtain rfl := h0 rfl
    have hx : xs = [] := List.eq_nil_of_length_eq_zero (by have := hown.1; omega)
    subst hx
    have hq := fun u => run_eql_slice_nil u 57 61 none 0 0 Tryz.underlying57
    go_enter Tryz.func55, Tryz.ntmps55
    go_wp2_with fail
    go_ret
    first | exact ⟨_, rfl, World.ownsRow_nil _ _ _ _, rfl, Below.refl _ _⟩ | exact ⟨_, rfl, World.ownsRow_nil _ _ _ _, fun _ => rfl, Below.refl _ _⟩
  · have hl := hown.1
    rcases hown.2 with ⟨_, hn0⟩ | ⟨g, cap, cur, rfl, _, hg, hnc, hcm, hsz, htake⟩
    · exact absurd hn0 hz
    · obtain ⟨ix, ix1, ix2, ix3, ix4⟩ := info_parts infoX
      obtain ⟨zx, hzx⟩ : ∃ z, z = Value.agg #[.int .u8 0, .string (ByteArray.mk #[])] := ⟨_, rfl⟩
      rw [← hzx] at ix2
      have ix5 : zx.cells.size = 2 := by rw [hzx]; rfl
      clear hzx
      have IX := Lib.hid (And.intro ix1 (And.intro ix2 (And.intro ix3 (And.intro ix4 ix5)))); clear ix1 ix2 ix3 ix4 ix5
      have hcells : ∀ j u, xs[j]? = some u → (w.alloc (.cells #[] 61)).cell? ⟨g, j, none⟩ = some u := fun j u hj => by
        have hB : Blk w g 61 cur := hg
        rw [(hB.alloc _).cell]
        rw [← htake, List.getElem?_take] at hj
        split at hj
        · simpa using hj
        · cases hj
      have hlit : (w.alloc (.cells #[] 61)).ownsRow w.heap.size 61 2 (.slice (some ⟨w.heap.size, 0, none⟩) 0 0) 0 [] := World.ownsRow_lit (size := 2) w #[] 0 (Nat.le_refl _) (by decide) rfl
      have hb : Below w.heap.size w (w.alloc (.cells #[] 61)) := (Below.refl _ _).alloc (Nat.le_refl _) _
      have hzz : w.heap.size ≤ (w.alloc (.cells #[] 61)).heap.size := hb.size
      have HC := Lib.hid (And.intro hcells (And.intro hlit (And.intro hb (And.intro hone hl)))); clear hcells hlit hb hone hl hown h0 hsz htake hg
      have hq := fun u => run_eql_slice_nil u 57 61 (some ⟨g, 0, none⟩) n cap Tryz.underlying57
      go_enter Tryz.func55, Tryz.ntmps55
      go_wp2_with (at_builtin; refine wpList_append_lies _ rfl (.tmp 5) (.tmp 6) 57 rfl w.heap.size 61 ix zx 2 24 Tryz.underlying57 IX.out.1 IX.out.2.1 IX.out.2.2.1 IX.out.2.2.2.1 IX.out.2.2.2.2 (by decide) _ 0 [] rfl HC.out.2.1 ⟨g, 0, none⟩ n cap xs rfl HC.out.2.2.2.2 (fun j u hj => by rw [Addr.add_mid, Nat.zero_add]; exact HC.out.1 j u hj) HC.out.2.2.2.1 (by omega) (by unfold maxLen; omega) (by omega) hzz _ rfl ?_; intro gg cap3 w6 hown6 hgrow6 hat6 hlt6)
      go_ret
      rw [Nat.zero_add] at hown6
      exact ⟨_, rfl, hown6, fun h => absurd h hz, grown_below (grown_own (below_grown HC.out.2.2.1 none) hgrow6 fun g e => .inl (HC.out.2.1.lt g e).1)⟩
set_option maxRecDepth 100000 in
set_option maxHeartbeats 4000000 in
theorem extras_any (g base n : Nat) (cs : Array Value) (v : Value) (xs : List Value) (w : World) (h : Blk w g 101 cs) (hv : cs[558]? = some v) (hown : w.ownsRow base 61 2 v n xs) (h0 : n = 0 → v = .slice none 0 0) (hone : ∀ u ∈ xs, u.oneCell' = true) (hn : n ≤ 1000000000) :
    Calls Tryz.prog 18 #[.pointer (some ⟨g, 0, none⟩)] w fun e w' => ∃ v', e = .returned v' ∧ w'.ownsRow w.heap.size 61 2 v' n xs ∧ (n = 0 → v' = .slice none 0 0) ∧ Below w.heap.size w w' := by
  have k : w.cell? ⟨g, 558, none⟩ = some v := by rw [h.cell, hv]
  have HC := Lib.hid (cloneX_any base n v xs w hown h0 hone hn); clear h hv hown h0 hone
  go_enter Tryz.func18, Tryz.ntmps18
  go_wp2_with fail
  refine HC.out.mono ?_
  rintro e w' ⟨v', rfl, h1, h2, h3⟩
  have HX := Lib.hid (And.intro h1 (And.intro h2 h3)); clear h1 h2 h3
  go_wp2_with fail
  go_ret
  exact ⟨_, rfl, HX.out.1, HX.out.2.1, HX.out.2.2⟩
end Go.Proofs.YtjfgfoeenajneaaGreatDoor.Sg
namespace Go.Proofs.YtjfgfoeenajneaaGreatDoor.Sg
open Go.RowKit

def com1 : SegM := { SegM.none_ with code := 254, at_ := 1, end_ := 8, data := [97, 98, 99] }
theorem aw_read1 : readM [65, 255, 254, 0, 5, 97, 98, 99, 100] 1 = .seg com1 := by rfl
theorem aw_read2 : readM [255, 221, 0, 4, 0] 0 = .fault 44 5 := by rfl
def dri (r : Int) : SegM := { SegM.none_ with code := 221, restart := r }
theorem aw_text7 : textM (dri 7) = .ok [255, 221, 0, 4, 0, 7] := by rfl
theorem aw_text9 : textM (dri 9) = .ok [255, 221, 0, 4, 0, 9] := by rfl
theorem aw_text1 : textM com1 = .ok [255, 254, 0, 5, 97, 98, 99] := by rfl
theorem dri_ok (r : Int) (h : 0 ≤ r ∧ r ≤ 65535) : SegOk (dri r) := by
  refine ⟨(by decide : (221 : Nat) < 256), (by decide : (0 : Nat) < 256), ?_, ?_, ?_, ?_, ?_, Nat.zero_le _, Nat.zero_le _, Nat.zero_le _, Nat.zero_le _, Nat.zero_le _, Nat.zero_le _, ⟨by show -9223372036854775808 ≤ r; omega, by show r ≤ 9223372036854775807; omega⟩⟩ <;> (intro x hx; cases hx)
theorem com1_ok : SegOk com1 := by
  refine ⟨by decide, by decide, ?_, ?_, ?_, ?_, ?_, by decide, by decide, by decide, by decide, by decide, by decide, by decide⟩ <;> (intro x hx; cases hx)
theorem nil_at (w : World) (m : SegM) (h1 : m.quants = []) (h2 : m.huffs = []) (h3 : m.comps = []) (h4 : m.parts = []) (h5 : m.ids = []) : SegAt w m nilS nilS nilS nilS nilS := by
  refine ⟨⟨none, 0, by rw [h1]; rfl, ?_⟩, ⟨none, 0, [], by rw [h2]; rfl, by rw [h2]; rfl, ?_, fun p hp => by cases hp⟩, ⟨none, 0, by rw [h3]; rfl, ?_, by rw [h3]; exact Nat.le_refl _⟩, ⟨none, 0, by rw [h4]; rfl, ?_⟩, ⟨none, 0, by rw [h5]; rfl, ?_⟩⟩
  · rw [h1]; exact ⟨rfl, fun h => absurd h (by decide)⟩
  · rw [h2]; exact ⟨rfl, fun h => absurd h (by decide)⟩
  · rw [h3]; exact ⟨rfl, fun h => absurd h (by decide)⟩
  · rw [h4]; exact ⟨rfl, fun h => absurd h (by decide)⟩
  · rw [h5]; exact ⟨rfl, fun h => absurd h (by decide)⟩
/-- an empty row is no row -/
theorem own_zero {u : World} {base : Nat} {e : TypeId} {z : Nat} {v : Value} {xs : List Value} (h : u.ownsRow base e z v 0 xs) : ∃ A c, v = .slice A 0 c := own_slice h
end Go.Proofs.YtjfgfoeenajneaaGreatDoor.Sg
namespace Go.Proofs.YtjfgfoeenajneaaGreatDoor.Sg
open Go.RowKit

theorem Lists.keepOnly {base gs : Nat} {u u' : World} {t : TypeId} {cs : Array Value} {m : SegM} {vq vh vc vp vi : Value} (h : Lists base u m vq vh vc vp vi) (hg : u.grownBy u' (some gs)) (hS : Blk u gs t cs) (h1 : t ≠ 81) (h2 : t ≠ 87) (h3 : t ≠ 90) (h4 : t ≠ 92) (h5 : t ≠ 5) : Lists base u' m vq vh vc vp vi :=
  h.keep fun g hgx => by
    rcases hgx with ⟨e, z, n, xs, v, he, ho, hv⟩ | ⟨v, t', ho, hv⟩
    · exact hg.block g (ho.lt g hv).2 (fun e => by injection e with e; subst e; exact row_ne ho hS (by rcases he with rfl | rfl | rfl | rfl | rfl <;> assumption) hv)
    · obtain ⟨g', e', _, h9⟩ := ho.lt
      exact hg.block g (by rw [e'] at hv; injection hv with hv; omega) (fun e => by injection e with e; subst e; exact ho.ne hS h5 hv)
theorem lists_nil {base : Nat} {u : World} {vq vh vc vp vi : Value} (h : Lists base u com1 vq vh vc vp vi) : SegAt u com1 vq vh vc vp vi := by
  obtain ⟨q, ⟨ps, h1, h2, h3, h4⟩, c, p, i⟩ := h
  obtain rfl : ps = [] := by cases ps with | nil => rfl | cons a b => cases h1
  obtain ⟨A1, c1, rfl⟩ := own_slice q
  obtain ⟨A2, c2, rfl⟩ := own_slice h2
  obtain ⟨A3, c3, rfl⟩ := own_slice c
  obtain ⟨A4, c4, rfl⟩ := own_slice p
  obtain ⟨A5, c5, rfl⟩ := own_slice i
  exact ⟨⟨A1, c1, rfl, ⟨rfl, fun h => absurd h (by decide)⟩⟩, ⟨A2, c2, [], rfl, rfl, ⟨rfl, fun h => absurd h (by decide)⟩, fun p hp => by cases hp⟩, ⟨A3, c3, rfl, ⟨rfl, fun h => absurd h (by decide)⟩, Nat.zero_le _⟩, ⟨A4, c4, rfl, ⟨rfl, fun h => absurd h (by decide)⟩⟩, ⟨A5, c5, rfl, ⟨rfl, fun h => absurd h (by decide)⟩⟩⟩
set_option maxRecDepth 100000 in
set_option maxHeartbeats 32000000 in
theorem awake_any (w : World) (hev : ErrT w) :
    Calls Tryz.prog 5 #[] w fun e w' => e = .returned (.bool true) ∧ Below w.heap.size w w' := by
  have hr1 := read_any [65, 255, 254, 0, 5, 97, 98, 99, 100] 1 w hev (by decide) (by decide) (by decide)
  rw [aw_read1] at hr1
  have HR1 := Lib.hid hr1; clear hr1
  go_enter Tryz.func5, Tryz.ntmps5
  go_wp2_with fail
  refine HR1.out.mono ?_
  rintro e w1 ⟨hb1, vq, vh, vc, vp, vi, rfl, hl1⟩
  have hl2 := hl1
  obtain ⟨o1, ⟨ps, p1, o2, p2, p3⟩, o3, o4, o5⟩ := hl1
  have hone : (segC com1 vq vh vc vp vi).all (·.oneCell') = true := one13 _ _ _ _ _ _ (own_one o1) (own_one o2) (own_one o3) (own_one o4) (own_one o5)
  have hsz : (Tryz.prog.info? 31).map (·.size) = some (segC com1 vq vh vc vp vi).size := size13R
  have HL := Lib.hid (And.intro hl2 (And.intro hone hsz)); clear hl2 hone hsz o1 p1 o2 p2 p3 o3 o4 o5
  generalize hsv : segC com1 vq vh vc vp vi = sv at HL ⊢
  have HSV := Lib.hid hsv; clear hsv
  go_upto_region 2 with (refine wpList_store_row rfl _ _ _ rfl _ _ rfl rfl _ _ (Blk.new w1 _ _) HL.out.2.2 (by rw [← HSV.out]; rfl) HL.out.2.1 ?_)
  have hA : Blk ((w1.alloc (.cells #[.int .u8 0, .int .i64 0, .int .i64 0, .slice none 0 0, .slice none 0 0, .int .u8 0, .int .i64 0, .int .i64 0, .slice none 0 0, .slice none 0 0, .slice none 0 0, .int .i64 0, .string (ByteArray.mk #[])] 31)).setRow w1.heap.size sv) w1.heap.size 31 sv := (Blk.new w1 _ _).row
  have hbA : Below w1.heap.size w1 ((w1.alloc (.cells #[.int .u8 0, .int .i64 0, .int .i64 0, .slice none 0 0, .slice none 0 0, .int .u8 0, .int .i64 0, .int .i64 0, .slice none 0 0, .slice none 0 0, .slice none 0 0, .int .i64 0, .string (ByteArray.mk #[])] 31)).setRow w1.heap.size sv) := grown_below (grown_row (grown_alloc (grown_of_below (Below.refl _ _) none) _) (.inl (Nat.le_refl _)) _)
  have hb2 := below_then hb1 hbA
  have hlA := HL.out.1.below hbA
  have hev2 := hev.below hb2
  have hsz1 := hb1.size
  clear hb1 hbA hev
  generalize ((w1.alloc (.cells #[.int .u8 0, .int .i64 0, .int .i64 0, .slice none 0 0, .slice none 0 0, .int .u8 0, .int .i64 0, .int .i64 0, .slice none 0 0, .slice none 0 0, .slice none 0 0, .int .i64 0, .string (ByteArray.mk #[])] 31)).setRow w1.heap.size sv) = w2 at hA hb2 hlA hev2 ⊢
  generalize w1.heap.size = g1 at hA hsz1 ⊢
  have HLA := Lib.hid (And.intro hlA hsz1); clear hlA hsz1
  have ht := text_any (dri 7) nilS nilS nilS nilS nilS w2 (nil_at _ _ rfl rfl rfl rfl rfl) (dri_ok 7 (by decide))
  rw [aw_text7] at ht
  have HTX := Lib.hid ht; clear ht
  go_wp2_with fail
  refine HTX.out.mono ?_
  rintro e w3 ⟨rfl, hb3⟩
  have hA3 := hA.kept hb3
  have hb4 := below_then hb2 hb3
  have hev3 := hev2.below hb3
  have hl3 := HLA.out.1.below hb3
  have HL3 := Lib.hid hl3
  clear hA hb2 hev2 hb3 hl3 HTX
  have hr2 := read_any [255, 221, 0, 4, 0] 0 w3 hev3 (by decide) (by decide) (by decide)
  rw [aw_read2] at hr2
  have HR2 := Lib.hid hr2; clear hr2
  go_wp2_with fail
  refine HR2.out.mono ?_
  rintro e w4 ⟨hb5, g2, rfl, hg2, hF2⟩
  have hA4 := hA3.kept hb5
  have hb6 := below_then hb4 hb5
  have hev4 := hev3.below hb5
  have hl4 := HL3.out.below hb5
  have HL4 := Lib.hid hl4; clear hl4
  clear hA3 hb4 hev3 hb5 HL3 HR2
  have hi1 : (Tryz.prog.info? 31).map (·.size) = some (segC SegM.none_ nilS nilS nilS nilS nilS).size := size13R
  have hi3 : (segC SegM.none_ nilS nilS nilS nilS nilS).all (·.oneCell') = true := one13 _ _ _ _ _ _ rfl rfl rfl rfl rfl
  have HI := Lib.hid (And.intro hi1 hi3); clear hi1 hi3
  go_upto_region 4 with (refine wpList_store_row rfl _ _ _ rfl _ _ rfl rfl _ _ (Blk.new w4 _ _) HI.out.1 rfl HI.out.2 ?_)
  have hbB : Below w4.heap.size w4 ((w4.alloc (.cells #[.int .u8 0, .int .i64 0, .int .i64 0, .slice none 0 0, .slice none 0 0, .int .u8 0, .int .i64 0, .int .i64 0, .slice none 0 0, .slice none 0 0, .slice none 0 0, .int .i64 0, .string (ByteArray.mk #[])] 31)).setRow w4.heap.size (segC SegM.none_ nilS nilS nilS nilS nilS)) := grown_below (grown_row (grown_alloc (grown_of_below (Below.refl _ _) none) _) (.inl (Nat.le_refl _)) _)
  have hA5 := hA4.kept hbB
  have hb7 := below_then hb6 hbB
  have hev5 := hev4.below hbB
  have hl5 := HL4.out.below hbB
  have hF5 := hF2.kept hbB
  have HL5 := Lib.hid hl5
  clear hA4 hb6 hev4 hbB hl5 hF2 hg2 HL4
  generalize ((w4.alloc (.cells #[.int .u8 0, .int .i64 0, .int .i64 0, .slice none 0 0, .slice none 0 0, .int .u8 0, .int .i64 0, .int .i64 0, .slice none 0 0, .slice none 0 0, .slice none 0 0, .int .i64 0, .string (ByteArray.mk #[])] 31)).setRow w4.heap.size (segC SegM.none_ nilS nilS nilS nilS nilS)) = w5 at hA5 hb7 hev5 hF5 HL5 ⊢
  generalize w4.heap.size = g4
  have htold := told_fault 44 5 g2 w5 hev5 hF5 (by decide)
  have HTO := Lib.hid htold; clear htold hF5
  go_wp2_with fail
  refine HTO.out.mono ?_
  rintro e w6 ⟨rfl, hb8⟩
  have hA6 := hA5.kept hb8
  have hb9 := below_then hb7 hb8
  have hl6 := HL5.out.below hb8
  have HL6 := Lib.hid hl6
  clear hA5 hb7 hev5 hb8 hl6 HTO HL5
  go_upto_region 5 with fail
  have hG := Blk.new w6 34 #[.int .i64 44, .int .i64 5]
  have hbC : Below w6.heap.size w6 (w6.alloc (.cells #[.int .i64 44, .int .i64 5] 34)) := (Below.refl _ _).alloc (Nat.le_refl _) _
  have hA7 := hA6.kept hbC
  have hb10 := below_then hb9 hbC
  have hl7 := HL6.out.below hbC
  have HL7 := Lib.hid hl7
  clear hA6 hb9 hbC hl7 HL6
  generalize (w6.alloc (.cells #[.int .i64 44, .int .i64 5] 34)) = w7 at hG hA7 hb10 HL7 ⊢
  generalize w6.heap.size = g7 at hG ⊢
  have HN := Lib.hid (new_any w7)
  go_wp2_with fail
  refine HN.out.mono ?_
  rintro e w8 ⟨rfl, hS8, hb11⟩
  have hA8 := hA7.kept hb11
  have hG8 := hG.kept hb11
  have hb12 := below_then hb10 hb11
  have hl8 := HL7.out.below hb11
  have HL8 := Lib.hid hl8
  have hsz8 : w.heap.size ≤ w7.heap.size := hb10.size
  clear hA7 hG hb10 hb11 hl8 HL7 HN
  generalize hgs : w7.heap.size = gs at hS8 hsz8 ⊢
  clear hgs
  have htr := take_r (dri 9) nilS nilS nilS nilS nilS gs Tryz.zeroCells101 0 [255, 221, 0, 4, 0, 9] w8 (nil_at _ _ rfl rfl rfl rfl rfl) (dri_ok 9 (by decide)) rfl aw_text9 hS8 (by kernel_rfl)
  have HTR := Lib.hid htr; clear htr
  go_wp2_with fail
  refine HTR.out.mono ?_
  rintro e w9 ⟨rfl, hS9, hgr9⟩
  have hA9 := hA8.grown hgr9 (fun e => by injection e with e; exact hA8.ne hS8 (by decide) e)
  have hG9 := hG8.grown hgr9 (fun e => by injection e with e; exact hG8.ne hS8 (by decide) e)
  have hb13 : Below w.heap.size w w9 := grown_below (grown_own (below_grown hb12 none) hgr9 fun g e => .inl (by injection e; omega))
  have hl9 := HL8.out.keepOnly hgr9 hS8 (by decide) (by decide) (by decide) (by decide) (by decide)
  have hat9 := lists_nil hl9
  clear hA8 hG8 hb12 hgr9 hS8 HL8 HTR hl9
  have hc558 : (Tryz.zeroCells101.setIfInBounds 409 (.int .i64 (dri 9).restart))[558]? = some (.slice none 0 0) := by
    rw [Array.getElem?_setIfInBounds_ne (by decide)]
    kernel_rfl
  have htx := take_x com1 vq vh vc vp vi gs w9.heap.size 0 _ _ [] _ w9 hat9 com1_ok (.inr rfl) aw_text1 hS9 hc558 (World.ownsRow_nil _ _ _ _) hS9.lt (Nat.le_refl _) (by decide)
  rw [HSV.out] at htx
  have HTX := Lib.hid htx; clear htx hat9
  go_wp2_with (refine wpList_load_row rfl _ _ rfl g1 rfl _ _ _ _ hA9 Tryz.underlying31 rfl HL.out.2.2 ?_)
  refine HTX.out.mono ?_
  rintro e w10 ⟨rfl, vx, hS10, hox, hbx⟩
  have hA10 := hbx.blk hA9 hA9.lt (fun e => hA9.ne hS9 (by decide) e) (fun e => hA9.ne hS9 (by decide) e)
  have hG10 := hbx.blk hG9 hG9.lt (fun e => hG9.ne hS9 (by decide) e) (fun e => hG9.ne hS9 (by decide) e)
  have hb14 : Below w.heap.size w w10 := hb13.trans (hbx.below hb13.size hsz8 hsz8)
  have hx9 : (Tryz.zeroCells101.setIfInBounds 409 (.int .i64 (dri 9).restart)).size = 559 := by simp only [Array.size_setIfInBounds]; kernel_rfl
  have hv558 : ((Tryz.zeroCells101.setIfInBounds 409 (.int .i64 (dri 9).restart)).setIfInBounds 558 vx)[558]? = some vx := by
    rw [Array.getElem?_setIfInBounds_self]
    simp [hx9]
  have hv409 : ((Tryz.zeroCells101.setIfInBounds 409 (.int .i64 (dri 9).restart)).setIfInBounds 558 vx)[409]? = some (.int .i64 9) := by
    rw [Array.getElem?_setIfInBounds_ne (by decide), Array.getElem?_setIfInBounds_self]
    have : Tryz.zeroCells101.size = 559 := by kernel_rfl
    simp [this]
    rfl
  clear hA9 hG9 hb13 hbx HTX hS9 hx9
  generalize ((Tryz.zeroCells101.setIfInBounds 409 (.int .i64 (dri 9).restart)).setIfInBounds 558 vx) = cs9 at hS10 hv558 hv409
  have hex := extras_any gs _ 1 cs9 vx _ w10 hS10 hv558 hox (fun h => by cases h) (by intro u hu; simp at hu; rcases hu with rfl | rfl <;> rfl) (by decide)
  have HEX := Lib.hid hex; clear hex hox hv558
  go_wp2_with fail
  refine HEX.out.mono ?_
  rintro e w11 ⟨vy, rfl, hoy, _, hb15⟩
  have hA11 := hA10.kept hb15
  have hG11 := hG10.kept hb15
  have hS11 := hS10.kept hb15
  have hb16 := below_then hb14 hb15
  clear hA10 hG10 hS10 hb14 hb15 HEX
  rcases hoy.2 with ⟨_, h9⟩ | ⟨gx, capx, cur, rfl, _, hgx, _, _, _, htk⟩
  · cases h9
  have x1 : w11.cell? ⟨gx, 1, none⟩ = some (.string (Bs [97, 98, 99])) := by
    rw [cell_of_row w11 gx 1 cur _ (0, 0) hgx]
    have h8 : (cur.toList.take (1 * 2))[1]? = some (.string (Bs [97, 98, 99])) := by rw [htk]; rfl
    rw [List.getElem?_take, if_pos (by decide)] at h8
    simpa using h8
  have a0 : w11.cell? ⟨g1, 0, none⟩ = some (.int .u8 254) := by rw [hA11.cell, ← HSV.out]; rfl
  have a1 : w11.cell? ⟨g1, 1, none⟩ = some (.int .i64 1) := by rw [hA11.cell, ← HSV.out]; rfl
  have a2 : w11.cell? ⟨g1, 2, none⟩ = some (.int .i64 8) := by rw [hA11.cell, ← HSV.out]; rfl
  have a12 : w11.cell? ⟨g1, 12, none⟩ = some (.string (Bs [97, 98, 99])) := by rw [hA11.cell, ← HSV.out]; rfl
  have k0 : w11.cell? ⟨g7, 0, none⟩ = some (.int .i64 44) := by rw [hG11.cell]; rfl
  have k1 : w11.cell? ⟨g7, 1, none⟩ = some (.int .i64 5) := by rw [hG11.cell]; rfl
  have hrs := restart_any gs cs9 9 w11 hS11 hv409
  have HRS := Lib.hid hrs; clear hrs hoy hgx htk hA11 hG11 hS11 hv409
  have s1 : ((Bs [97, 98, 99]).toList == [97, 98, 99]) = true := by rw [ByteArray.toList_eq]; rfl
  have s2 : ((Bs [255, 221, 0, 4, 0, 7]).toList == [255, 221, 0, 4, 0, 7]) = true := by rw [ByteArray.toList_eq]; rfl
  go_wp2_with fail
  refine HRS.out.mono ?_
  rintro e w12 ⟨rfl, rfl⟩
  go_wp2_with fail
  go_ret
  exact ⟨rfl, hb16⟩
end Go.Proofs.YtjfgfoeenajneaaGreatDoor.Sg
