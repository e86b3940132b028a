/- SegmentRead: of any file, at any place: the segment, or the fault; read again, and elsewhere between, alike. -/
import Derived.Test.YtjfgfoeenajneaaGreatDoorGE5
import Derived.Test.YtjfgfoeenajneaaGreatDoorGF2
namespace Go.Proofs.YtjfgfoeenajneaaGreatDoor.Sg
open Go.RowKit

theorem Wr.under {lo hi : Nat} {u u' : World} (h : Wr (fun g => lo ≤ g ∧ g < hi) u u') (hl : lo ≤ u.heap.size) : Below lo u u' :=
  ⟨h.os, h.tape, h.output, h.size, fun i hi => h.block i (by omega) (by omega)⟩
set_option maxRecDepth 100000 in
set_option maxHeartbeats 32000000 in
theorem segRead_law (f : List UInt8) (a b : Int) (w : World) (hev : ErrT w) (hl : f.length ≤ 16777216) (ha1 : -9223372036854775808 ≤ a) (ha2 : a ≤ 9223372036854775807) (hb1 : -9223372036854775808 ≤ b) (hb2 : b ≤ 9223372036854775807) :
    Calls Tryz.prog 3 #[.string (Bs f), .int .i64 a, .int .i64 b] w fun e w' => e = .returned (.bool true) ∧ Below w.heap.size w w' := by
  obtain ⟨r1, h1⟩ : ∃ r, readM f a = r := ⟨_, rfl⟩
  obtain ⟨r2, h2⟩ : ∃ r, readM f b = r := ⟨_, rfl⟩
  have HD1 := Lib.hid (fun u => readD_u f a r1 u h1 hl ha1 ha2)
  have HD2 := Lib.hid (fun u => readD_u f b r2 u h2 hl hb1 hb2)
  have HR1 := Lib.hid (fun u (hu : ErrT u) => read_u f a r1 u hu h1 hl ha1 ha2)
  have HR2 := Lib.hid (fun u (hu : ErrT u) => read_u f b r2 u hu h2 hl hb1 hb2)
  have HO1 := Lib.hid (ansR_ok h1 hl)
  have HO2 := Lib.hid (ansR_ok h2 hl)
  have HE := Lib.hid hev
  clear h1 h2 hl ha1 ha2 hb1 hb2
  obtain ⟨c1, q1⟩ : ∃ c, codeR r1 = c := ⟨_, rfl⟩
  obtain ⟨p1, q2⟩ : ∃ c, placeR r1 = c := ⟨_, rfl⟩
  obtain ⟨c2, q3⟩ : ∃ c, codeR r2 = c := ⟨_, rfl⟩
  obtain ⟨p2, q4⟩ : ∃ c, placeR r2 = c := ⟨_, rfl⟩
  have HCP := Lib.hid (And.intro q1 (And.intro q2 (And.intro q3 q4))); clear q1 q2 q3 q4
  generalize Bs f = F at HD1 HD2 HR1 HR2 ⊢
  go_enter Tryz.func3, Tryz.ntmps3
  have HAW := Lib.hid (awake_any w hev)
  go_wp2_with fail
  refine HAW.out.mono ?_
  rintro e w1 ⟨rfl, hB⟩
  clear HAW
  go_wp2_with fail
  refine (HD1.out w1).mono ?_
  rintro e w5 ⟨hb, vq1, vh1, vc1, vp1, vi1, rfl, hls⟩
  have hB := below_then hB hb
  clear hb
  rw [HCP.out.1, HCP.out.2.1]
  obtain ⟨sv1, hsv1⟩ : ∃ z, z = segC (ansR r1) vq1 vh1 vc1 vp1 vi1 := ⟨_, rfl⟩
  rw [← hsv1]
  have hsz : (Tryz.prog.info? 31).map (·.size) = some sv1.size := by rw [hsv1]; exact size13R
  have hz2 : (#[.int .u8 0, .int .i64 0, .int .i64 0, .slice none 0 0, .slice none 0 0, .int .u8 0, .int .i64 0, .int .i64 0, .slice none 0 0, .slice none 0 0, .slice none 0 0, .int .i64 0, .string (ByteArray.mk #[])] : Array Value).size = sv1.size := by rw [hsv1]; rfl
  have hone : sv1.all (·.oneCell') = true := by rw [hsv1]; exact lists_one hls
  have HV1 := Lib.hid (And.intro hsv1 (And.intro hsz (And.intro hz2 hone))); clear hsv1 hsz hz2 hone
  have hS := (Blk.new w5 31 #[.int .u8 0, .int .i64 0, .int .i64 0, .slice none 0 0, .slice none 0 0, .int .u8 0, .int .i64 0, .int .i64 0, .slice none 0 0, .slice none 0 0, .slice none 0 0, .int .i64 0, .string (ByteArray.mk #[])]).alloc (.cells #[.int .i64 0, .int .i64 0] 34)
  have hF := Blk.new (w5.alloc (.cells #[.int .u8 0, .int .i64 0, .int .i64 0, .slice none 0 0, .slice none 0 0, .int .u8 0, .int .i64 0, .int .i64 0, .slice none 0 0, .slice none 0 0, .slice none 0 0, .int .i64 0, .string (ByteArray.mk #[])] 31)) 34 #[.int .i64 0, .int .i64 0]
  rw [show (w5.alloc (.cells #[.int .u8 0, .int .i64 0, .int .i64 0, .slice none 0 0, .slice none 0 0, .int .u8 0, .int .i64 0, .int .i64 0, .slice none 0 0, .slice none 0 0, .slice none 0 0, .int .i64 0, .string (ByteArray.mk #[])] 31)).heap.size = w5.heap.size + 1 by simp] at hF
  have hS2 := Blk.row (ds := sv1) hS
  have hF2 := Blk.farRow (s := w5.heap.size) hF (by omega) sv1
  have c80 := hF2.cell 0
  have c81 := hF2.cell 1
  have f80 := hF2.frozen 0
  have f81 := hF2.frozen 1
  have hS3 := (hS2.far (p := ⟨w5.heap.size + 1, 0, none⟩) (show w5.heap.size ≠ w5.heap.size + 1 by omega) (.int .i64 c1)).far (p := ⟨w5.heap.size + 1, 1, none⟩) (show w5.heap.size ≠ w5.heap.size + 1 by omega) (.int .i64 p1)
  have hF3 := (hF2.set 0 (.int .i64 c1)).set 1 (.int .i64 p1)
  have hbB := grown_below (grown_write (p := ⟨w5.heap.size + 1, 1, none⟩) (grown_write (p := ⟨w5.heap.size + 1, 0, none⟩) (grown_row (g := w5.heap.size) (grown_alloc (grown_alloc (grown_of_below (Below.refl w5.heap.size w5) none) (.cells #[.int .u8 0, .int .i64 0, .int .i64 0, .slice none 0 0, .slice none 0 0, .int .u8 0, .int .i64 0, .int .i64 0, .slice none 0 0, .slice none 0 0, .slice none 0 0, .int .i64 0, .string (ByteArray.mk #[])] 31)) (.cells #[.int .i64 0, .int .i64 0] 34)) (.inl (Nat.le_refl _)) sv1) (.inl (by show w5.heap.size ≤ w5.heap.size + 1; omega)) (.int .i64 c1)) (.inl (by show w5.heap.size ≤ w5.heap.size + 1; omega)) (.int .i64 p1))
  have HW := Lib.hid (And.intro hS3 (And.intro hF3 hbB)); clear hS3 hF3 hbB hS2 hF2 hF
  have HS := Lib.hid hS; clear hS
  go_upto_region 3 with (refine wpList_store_row rfl _ _ _ rfl _ _ rfl rfl _ _ HS.out HV1.out.2.1 HV1.out.2.2.1 HV1.out.2.2.2 ?_)
  have hat1 := hls.at_.below HW.out.2.2
  have hB := below_then hB HW.out.2.2
  have hS1 := HW.out.1
  have hF1 := HW.out.2.1
  clear HW HS c80 c81 f80 f81 hls
  generalize (((((w5.alloc (.cells #[.int .u8 0, .int .i64 0, .int .i64 0, .slice none 0 0, .slice none 0 0, .int .u8 0, .int .i64 0, .int .i64 0, .slice none 0 0, .slice none 0 0, .slice none 0 0, .int .i64 0, .string (ByteArray.mk #[])] 31)).alloc (.cells #[.int .i64 0, .int .i64 0] 34)).setRow w5.heap.size sv1).setCell ⟨w5.heap.size + 1, 0, none⟩ (.int .i64 c1)).setCell ⟨w5.heap.size + 1, 1, none⟩ (.int .i64 p1)) = w1 at hB hS1 hF1 hat1  ⊢
  generalize w5.heap.size = s1 at hS1 hF1 ⊢
  obtain ⟨f1, hf1⟩ : ∃ f1, s1 + 1 = f1 := ⟨_, rfl⟩
  rw [hf1] at hF1
  simp only [hf1]
  clear hf1
  have hF1 : Blk w1 f1 34 #[.int .i64 c1, .int .i64 p1] := hF1
  go_wp2_with fail
  refine (HD2.out w1).mono ?_
  rintro e w5 ⟨hb, vq2, vh2, vc2, vp2, vi2, rfl, hls⟩
  have hB := below_then hB hb
  have hS1 := hS1.kept hb
  have hF1 := hF1.kept hb
  have hat1 := hat1.below hb
  clear hb
  rw [HCP.out.2.2.1, HCP.out.2.2.2]
  obtain ⟨sv2, hsv2⟩ : ∃ z, z = segC (ansR r2) vq2 vh2 vc2 vp2 vi2 := ⟨_, rfl⟩
  rw [← hsv2]
  have hsz : (Tryz.prog.info? 31).map (·.size) = some sv2.size := by rw [hsv2]; exact size13R
  have hz2 : (#[.int .u8 0, .int .i64 0, .int .i64 0, .slice none 0 0, .slice none 0 0, .int .u8 0, .int .i64 0, .int .i64 0, .slice none 0 0, .slice none 0 0, .slice none 0 0, .int .i64 0, .string (ByteArray.mk #[])] : Array Value).size = sv2.size := by rw [hsv2]; rfl
  have hone : sv2.all (·.oneCell') = true := by rw [hsv2]; exact lists_one hls
  have HV2 := Lib.hid (And.intro hsv2 (And.intro hsz (And.intro hz2 hone))); clear hsv2 hsz hz2 hone
  have hS := (Blk.new w5 31 #[.int .u8 0, .int .i64 0, .int .i64 0, .slice none 0 0, .slice none 0 0, .int .u8 0, .int .i64 0, .int .i64 0, .slice none 0 0, .slice none 0 0, .slice none 0 0, .int .i64 0, .string (ByteArray.mk #[])]).alloc (.cells #[.int .i64 0, .int .i64 0] 34)
  have hF := Blk.new (w5.alloc (.cells #[.int .u8 0, .int .i64 0, .int .i64 0, .slice none 0 0, .slice none 0 0, .int .u8 0, .int .i64 0, .int .i64 0, .slice none 0 0, .slice none 0 0, .slice none 0 0, .int .i64 0, .string (ByteArray.mk #[])] 31)) 34 #[.int .i64 0, .int .i64 0]
  rw [show (w5.alloc (.cells #[.int .u8 0, .int .i64 0, .int .i64 0, .slice none 0 0, .slice none 0 0, .int .u8 0, .int .i64 0, .int .i64 0, .slice none 0 0, .slice none 0 0, .slice none 0 0, .int .i64 0, .string (ByteArray.mk #[])] 31)).heap.size = w5.heap.size + 1 by simp] at hF
  have hS2 := Blk.row (ds := sv2) hS
  have hF2 := Blk.farRow (s := w5.heap.size) hF (by omega) sv2
  have c80 := hF2.cell 0
  have c81 := hF2.cell 1
  have f80 := hF2.frozen 0
  have f81 := hF2.frozen 1
  have hS3 := (hS2.far (p := ⟨w5.heap.size + 1, 0, none⟩) (show w5.heap.size ≠ w5.heap.size + 1 by omega) (.int .i64 c2)).far (p := ⟨w5.heap.size + 1, 1, none⟩) (show w5.heap.size ≠ w5.heap.size + 1 by omega) (.int .i64 p2)
  have hF3 := (hF2.set 0 (.int .i64 c2)).set 1 (.int .i64 p2)
  have hbB := grown_below (grown_write (p := ⟨w5.heap.size + 1, 1, none⟩) (grown_write (p := ⟨w5.heap.size + 1, 0, none⟩) (grown_row (g := w5.heap.size) (grown_alloc (grown_alloc (grown_of_below (Below.refl w5.heap.size w5) none) (.cells #[.int .u8 0, .int .i64 0, .int .i64 0, .slice none 0 0, .slice none 0 0, .int .u8 0, .int .i64 0, .int .i64 0, .slice none 0 0, .slice none 0 0, .slice none 0 0, .int .i64 0, .string (ByteArray.mk #[])] 31)) (.cells #[.int .i64 0, .int .i64 0] 34)) (.inl (Nat.le_refl _)) sv2) (.inl (by show w5.heap.size ≤ w5.heap.size + 1; omega)) (.int .i64 c2)) (.inl (by show w5.heap.size ≤ w5.heap.size + 1; omega)) (.int .i64 p2))
  have HW := Lib.hid (And.intro hS3 (And.intro hF3 hbB)); clear hS3 hF3 hbB hS2 hF2 hF
  have HS := Lib.hid hS; clear hS
  go_upto_region 4 with (refine wpList_store_row rfl _ _ _ rfl _ _ rfl rfl _ _ HS.out HV2.out.2.1 HV2.out.2.2.1 HV2.out.2.2.2 ?_)
  have hat2 := hls.at_.below HW.out.2.2
  have hB := below_then hB HW.out.2.2
  have hS2 := HW.out.1
  have hF2 := HW.out.2.1
  have hS1 := hS1.kept HW.out.2.2
  have hF1 := hF1.kept HW.out.2.2
  have hat1 := hat1.below HW.out.2.2
  clear HW HS c80 c81 f80 f81 hls
  generalize (((((w5.alloc (.cells #[.int .u8 0, .int .i64 0, .int .i64 0, .slice none 0 0, .slice none 0 0, .int .u8 0, .int .i64 0, .int .i64 0, .slice none 0 0, .slice none 0 0, .slice none 0 0, .int .i64 0, .string (ByteArray.mk #[])] 31)).alloc (.cells #[.int .i64 0, .int .i64 0] 34)).setRow w5.heap.size sv2).setCell ⟨w5.heap.size + 1, 0, none⟩ (.int .i64 c2)).setCell ⟨w5.heap.size + 1, 1, none⟩ (.int .i64 p2)) = w1 at hB hS2 hF2 hat2 hS1 hF1 hat1 ⊢
  generalize w5.heap.size = s2 at hS2 hF2 ⊢
  obtain ⟨f2, hf2⟩ : ∃ f2, s2 + 1 = f2 := ⟨_, rfl⟩
  rw [hf2] at hF2
  simp only [hf2]
  clear hf2
  have hF2 : Blk w1 f2 34 #[.int .i64 c2, .int .i64 p2] := hF2
  go_wp2_with fail
  refine (HR1.out w1 (HE.out.below hB)).mono ?_
  rintro e w7 ⟨hb, vq3, vh3, vc3, vp3, vi3, ev, rfl, hls, hea⟩
  have hB := below_then hB hb
  have hS1 := hS1.kept hb
  have hF1 := hF1.kept hb
  have hat1 := hat1.below hb
  have hS2 := hS2.kept hb
  have hF2 := hF2.kept hb
  have hat2 := hat2.below hb
  clear hb
  obtain ⟨sv3, hsv3⟩ : ∃ z, z = segC (ansR r1) vq3 vh3 vc3 vp3 vi3 := ⟨_, rfl⟩
  rw [← hsv3]
  have hsz : (Tryz.prog.info? 31).map (·.size) = some sv3.size := by rw [hsv3]; exact size13R
  have hz2 : (#[.int .u8 0, .int .i64 0, .int .i64 0, .slice none 0 0, .slice none 0 0, .int .u8 0, .int .i64 0, .int .i64 0, .slice none 0 0, .slice none 0 0, .slice none 0 0, .int .i64 0, .string (ByteArray.mk #[])] : Array Value).size = sv3.size := by rw [hsv3]; rfl
  have hone : sv3.all (·.oneCell') = true := by rw [hsv3]; exact lists_one hls
  have HV3 := Lib.hid (And.intro hsv3 (And.intro hsz (And.intro hz2 hone))); clear hsv3 hsz hz2 hone
  have heo := hea.one
  go_upto_region 5 with (refine wpList_store_row rfl _ _ _ rfl _ _ rfl rfl _ _ (Blk.new w7 _ _) HV3.out.2.1 HV3.out.2.2.1 HV3.out.2.2.2 ?_)
  have hS3 : Blk ((w7.alloc (.cells #[.int .u8 0, .int .i64 0, .int .i64 0, .slice none 0 0, .slice none 0 0, .int .u8 0, .int .i64 0, .int .i64 0, .slice none 0 0, .slice none 0 0, .slice none 0 0, .int .i64 0, .string (ByteArray.mk #[])] 31)).setRow w7.heap.size sv3) w7.heap.size 31 sv3 := (Blk.new w7 _ _).row
  have hb : Below w7.heap.size w7 ((w7.alloc (.cells #[.int .u8 0, .int .i64 0, .int .i64 0, .slice none 0 0, .slice none 0 0, .int .u8 0, .int .i64 0, .int .i64 0, .slice none 0 0, .slice none 0 0, .slice none 0 0, .int .i64 0, .string (ByteArray.mk #[])] 31)).setRow w7.heap.size sv3) := grown_below (grown_row (grown_alloc (grown_of_below (Below.refl _ _) none) _) (.inl (Nat.le_refl _)) _)
  have hB := below_then hB hb
  have hat3 := hls.at_.below hb
  have hea := hea.below hb
  have hS1 := hS1.kept hb
  have hF1 := hF1.kept hb
  have hat1 := hat1.below hb
  have hS2 := hS2.kept hb
  have hF2 := hF2.kept hb
  have hat2 := hat2.below hb
  clear hb hls
  generalize ((w7.alloc (.cells #[.int .u8 0, .int .i64 0, .int .i64 0, .slice none 0 0, .slice none 0 0, .int .u8 0, .int .i64 0, .int .i64 0, .slice none 0 0, .slice none 0 0, .slice none 0 0, .int .i64 0, .string (ByteArray.mk #[])] 31)).setRow w7.heap.size sv3) = w1 at hB hS3 hat3 hea hS1 hF1 hat1 hS2 hF2 hat2 ⊢
  generalize w7.heap.size = s3 at hS3 ⊢
  have hto := told_u r1 ev w1 (HE.out.below hB) hea
  rw [HCP.out.1, HCP.out.2.1] at hto
  have HTO := Lib.hid hto; clear hto hea
  go_wp2_with fail
  refine HTO.out.mono ?_
  rintro e uT ⟨rfl, hb⟩
  have hB := below_then hB hb
  have hS1 := hS1.kept hb
  have hF1 := hF1.kept hb
  have hat1 := hat1.below hb
  have hS2 := hS2.kept hb
  have hF2 := hF2.kept hb
  have hat2 := hat2.below hb
  have hS3 := hS3.kept hb
  have hat3 := hat3.below hb
  clear hb HTO
  go_upto_region 6 with fail
  have hT := Blk.new uT 34 #[.int .i64 c1, .int .i64 p1]
  have hBT : Below uT.heap.size uT (uT.alloc (.cells #[.int .i64 c1, .int .i64 p1] 34)) := (Below.refl _ _).alloc (Nat.le_refl _) _
  have HU := Lib.hid (And.intro hS1 (And.intro hF1 (And.intro hat1 (And.intro hS2 (And.intro hF2 (And.intro hat2 (And.intro hS3 (And.intro hat3 hB)))))))); clear hS1 hF1 hat1 hS2 hF2 hat2 hS3 hat3 hB heo
  obtain ⟨t, ht⟩ : ∃ t, uT.heap.size = t := ⟨_, rfl⟩
  generalize (uT.alloc (.cells #[.int .i64 c1, .int .i64 p1] 34)) = u at hT hBT ⊢
  rw [ht] at hT
  simp only [ht]
  have HN := Lib.hid ht; clear ht
  have k0 : u.cell? ⟨t, 0, none⟩ = some (.int .i64 c1) := by rw [hT.cell]; rfl
  have k1 : u.cell? ⟨t, 1, none⟩ = some (.int .i64 p1) := by rw [hT.cell]; rfl
  have hff := HU.out.2.1.kept hBT
  have k2 : u.cell? ⟨f1, 0, none⟩ = some (.int .i64 c1) := by rw [hff.cell]; rfl
  have k3 : u.cell? ⟨f1, 1, none⟩ = some (.int .i64 p1) := by rw [hff.cell]; rfl
  clear hff
  have hsa := HU.out.2.2.2.2.2.2.1.kept hBT
  have hsb := HU.out.1.kept hBT
  have hra := (fun j v hv => by rw [Nat.zero_add, hsa.cell, ← Array.getElem?_toList]; exact hv : u.rangeAt s3 0 sv3.toList)
  have hrb := (fun j v hv => by rw [Nat.zero_add, hsb.cell, ← Array.getElem?_toList]; exact hv : u.rangeAt s1 0 sv1.toList)
  have hsm := same_u (ansR r1) vq3 vh3 vc3 vp3 vi3 vq1 vh1 vc1 vp1 vi1 u (HU.out.2.2.2.2.2.2.2.1.below hBT) ((HU.out.2.2.1).below hBT) HO1.out.1 HO1.out.2.2
  rw [← HV3.out.1, ← HV1.out.1] at hsm
  have HSM := Lib.hid (And.intro hsm (And.intro hra (And.intro hrb (And.intro (by rw [Array.length_toList]; exact HV3.out.2.1 : (Tryz.prog.info? 31).map (·.size) = some sv3.toList.length) (by rw [Array.length_toList]; exact HV1.out.2.1 : (Tryz.prog.info? 31).map (·.size) = some sv1.toList.length)))))
  clear hsm hra hrb hsa hsb
  go_wp2_with (first | (refine wpList_load_mid_g (by kernel_rfl) _ _ rfl s3 0 rfl _ _ HSM.out.2.1 Tryz.underlying31 rfl HSM.out.2.2.2.1 ?_) | (refine wpList_load_mid_g (by kernel_rfl) _ _ rfl s1 0 rfl _ _ HSM.out.2.2.1 Tryz.underlying31 rfl HSM.out.2.2.2.2 ?_))
  refine HSM.out.1.mono ?_
  rintro e u2 ⟨rfl, hb⟩
  have hBT := below_then hBT hb
  have hT := hT.kept hb
  clear hb HSM k0 k1 k2 k3
  generalize u2 = u at hBT hT ⊢
  have hevu := (HE.out.below HU.out.2.2.2.2.2.2.2.2).below hBT
  go_wp2_with fail
  refine (HR2.out u hevu).mono ?_
  clear hevu
  rintro e w7 ⟨hb, vq4, vh4, vc4, vp4, vi4, ev, rfl, hls, hea⟩
  have hBT := below_then hBT hb
  have hlo : t < u.heap.size := hT.lt
  have hT := hT.kept hb
  have hlz := hb.size
  clear hb
  obtain ⟨lo, hlq⟩ : ∃ lo, u.heap.size = lo := ⟨_, rfl⟩
  rw [hlq] at hls hlo hlz
  clear hlq
  obtain ⟨sv4, hsv4⟩ : ∃ z, z = segC (ansR r2) vq4 vh4 vc4 vp4 vi4 := ⟨_, rfl⟩
  rw [← hsv4]
  have hsz : (Tryz.prog.info? 31).map (·.size) = some sv4.size := by rw [hsv4]; exact size13R
  have hz2 : (#[.int .u8 0, .int .i64 0, .int .i64 0, .slice none 0 0, .slice none 0 0, .int .u8 0, .int .i64 0, .int .i64 0, .slice none 0 0, .slice none 0 0, .slice none 0 0, .int .i64 0, .string (ByteArray.mk #[])] : Array Value).size = sv4.size := by rw [hsv4]; rfl
  have hone : sv4.all (·.oneCell') = true := by rw [hsv4]; exact lists_one hls
  have HV4 := Lib.hid (And.intro hsv4 (And.intro hsz (And.intro hz2 hone))); clear hsv4 hsz hz2 hone
  have heo := hea.one
  go_upto_region 8 with (refine wpList_store_row rfl _ _ _ rfl _ _ rfl rfl _ _ (Blk.new w7 _ _) HV4.out.2.1 HV4.out.2.2.1 HV4.out.2.2.2 ?_)
  have hS4 : Blk ((w7.alloc (.cells #[.int .u8 0, .int .i64 0, .int .i64 0, .slice none 0 0, .slice none 0 0, .int .u8 0, .int .i64 0, .int .i64 0, .slice none 0 0, .slice none 0 0, .slice none 0 0, .int .i64 0, .string (ByteArray.mk #[])] 31)).setRow w7.heap.size sv4) w7.heap.size 31 sv4 := (Blk.new w7 _ _).row
  have hb : Below w7.heap.size w7 ((w7.alloc (.cells #[.int .u8 0, .int .i64 0, .int .i64 0, .slice none 0 0, .slice none 0 0, .int .u8 0, .int .i64 0, .int .i64 0, .slice none 0 0, .slice none 0 0, .slice none 0 0, .int .i64 0, .string (ByteArray.mk #[])] 31)).setRow w7.heap.size sv4) := grown_below (grown_row (grown_alloc (grown_of_below (Below.refl _ _) none) _) (.inl (Nat.le_refl _)) _)
  have hBT := below_then hBT hb
  have hls := hls.below hb
  have hea := hea.below hb
  have hT := hT.kept hb
  have htn : t ≠ w7.heap.size := by omega
  clear hb
  generalize ((w7.alloc (.cells #[.int .u8 0, .int .i64 0, .int .i64 0, .slice none 0 0, .slice none 0 0, .int .u8 0, .int .i64 0, .int .i64 0, .slice none 0 0, .slice none 0 0, .slice none 0 0, .int .i64 0, .string (ByteArray.mk #[])] 31)).setRow w7.heap.size sv4) = u3 at hBT hls hea hT hS4 ⊢
  generalize w7.heap.size = s4 at hS4 htn hlz ⊢
  have hto := told_u r2 ev u3 ((HE.out.below HU.out.2.2.2.2.2.2.2.2).below hBT) hea
  rw [HCP.out.2.2.1, HCP.out.2.2.2] at hto
  have HTO := Lib.hid hto; clear hto hea
  go_wp2_with fail
  refine HTO.out.mono ?_
  rintro e u4 ⟨rfl, hb⟩
  have hBT := below_then hBT hb
  have hT := hT.kept hb
  have hls := hls.below hb
  have hS4 := hS4.kept hb
  clear hb HTO
  have k0 := hT.cell 0
  have k1 := hT.cell 1
  have g0 := hT.frozen 0
  have g1 := hT.frozen 1
  have hT2 : Blk ((u4.setCell ⟨t, 0, none⟩ (.int .i64 c2)).setCell ⟨t, 1, none⟩ (.int .i64 p2)) t 34 #[.int .i64 c2, .int .i64 p2] := (hT.set 0 _).set 1 _
  have hSx := (hS4.far (p := ⟨t, 0, none⟩) (Ne.symm htn) (.int .i64 c2)).far (p := ⟨t, 1, none⟩) (Ne.symm htn) (.int .i64 p2)
  have hls4 : ListsL lo ((u4.setCell ⟨t, 0, none⟩ (.int .i64 c2)).setCell ⟨t, 1, none⟩ (.int .i64 p2)) (ansR r2) vq4 vh4 vc4 vp4 vi4 := hls.keep fun g hg _ => by
    rw [Below.heap_setCell _ _ _ g (show g ≠ t by omega), Below.heap_setCell _ _ _ g (show g ≠ t by omega)]
  have hBT4 : Below uT.heap.size uT ((u4.setCell ⟨t, 0, none⟩ (.int .i64 c2)).setCell ⟨t, 1, none⟩ (.int .i64 p2)) := grown_below (grown_write (p := ⟨t, 1, none⟩) (grown_write (p := ⟨t, 0, none⟩) (below_grown hBT none) (.inl (Nat.le_of_eq HN.out)) _) (.inl (Nat.le_of_eq HN.out)) _)
  clear hT hS4 hls hBT
  go_upto_region 9 with fail
  clear k0 k1 g0 g1 heo
  generalize ((u4.setCell ⟨t, 0, none⟩ (.int .i64 c2)).setCell ⟨t, 1, none⟩ (.int .i64 p2)) = u at hT2 hSx hls4 hBT4 ⊢
  have hT := hT2
  have hS4 := hSx
  have hls := hls4
  have hBT := hBT4
  clear hT2 hSx hls4 hBT4
  have k0 : u.cell? ⟨t, 0, none⟩ = some (.int .i64 c2) := by rw [hT.cell]; rfl
  have k1 : u.cell? ⟨t, 1, none⟩ = some (.int .i64 p2) := by rw [hT.cell]; rfl
  have hff := HU.out.2.2.2.2.1.kept hBT
  have k2 : u.cell? ⟨f2, 0, none⟩ = some (.int .i64 c2) := by rw [hff.cell]; rfl
  have k3 : u.cell? ⟨f2, 1, none⟩ = some (.int .i64 p2) := by rw [hff.cell]; rfl
  clear hff
  have hsa := hS4
  have hsb := HU.out.2.2.2.1.kept hBT
  have hra := (fun j v hv => by rw [Nat.zero_add, hsa.cell, ← Array.getElem?_toList]; exact hv : u.rangeAt s4 0 sv4.toList)
  have hrb := (fun j v hv => by rw [Nat.zero_add, hsb.cell, ← Array.getElem?_toList]; exact hv : u.rangeAt s2 0 sv2.toList)
  have hsm := same_u (ansR r2) vq4 vh4 vc4 vp4 vi4 vq2 vh2 vc2 vp2 vi2 u (hls.at_) ((HU.out.2.2.2.2.2.1).below hBT) HO2.out.1 HO2.out.2.2
  rw [← HV4.out.1, ← HV2.out.1] at hsm
  have HSM := Lib.hid (And.intro hsm (And.intro hra (And.intro hrb (And.intro (by rw [Array.length_toList]; exact HV4.out.2.1 : (Tryz.prog.info? 31).map (·.size) = some sv4.toList.length) (by rw [Array.length_toList]; exact HV2.out.2.1 : (Tryz.prog.info? 31).map (·.size) = some sv2.toList.length)))))
  clear hsm hra hrb hsa hsb
  go_wp2_with (first | (refine wpList_load_mid_g (by kernel_rfl) _ _ rfl s4 0 rfl _ _ HSM.out.2.1 Tryz.underlying31 rfl HSM.out.2.2.2.1 ?_) | (refine wpList_load_mid_g (by kernel_rfl) _ _ rfl s2 0 rfl _ _ HSM.out.2.2.1 Tryz.underlying31 rfl HSM.out.2.2.2.2 ?_))
  refine HSM.out.1.mono ?_
  rintro e u2 ⟨rfl, hb⟩
  have hBT := below_then hBT hb
  have hT := hT.kept hb
  have hS4 := hS4.kept hb
  have hls := hls.below hb
  clear hb HSM k0 k1 k2 k3
  generalize u2 = u at hBT hT hS4 hls ⊢
  have hsp := spoil_any lo u.heap.size (ansR r2) vq4 vh4 vc4 vp4 vi4 u (SpIn.of_lists hls HO2.out.1 HO2.out.2.1) (Nat.le_refl _) HO2.out.1
  rw [← HV4.out.1] at hsp
  have HSP := Lib.hid hsp; clear hsp hls
  go_wp2_with (refine wpList_load_row rfl _ _ rfl s4 rfl _ _ _ _ hS4 Tryz.underlying31 rfl HV4.out.2.1 ?_)
  refine HSP.out.mono ?_
  rintro e u5 ⟨⟨r9, rfl⟩, hwr⟩
  have hb : Below lo u u5 := hwr.under (by have := hS4.lt; omega)
  have hT := hT.below hb hlo
  have hBT := hBT.trans (hb.mono (by have := HN.out; omega))
  clear hb hwr HSP hS4 hlo htn hlz
  generalize u5 = u at hT hBT ⊢
  have hevu := (HE.out.below HU.out.2.2.2.2.2.2.2.2).below hBT
  go_wp2_with fail
  refine (HR1.out u hevu).mono ?_
  clear hevu
  rintro e w7 ⟨hb, vq5, vh5, vc5, vp5, vi5, ev, rfl, hls, hea⟩
  have hBT := below_then hBT hb
  have hlo : t < u.heap.size := hT.lt
  have hT := hT.kept hb
  have hlz := hb.size
  clear hb
  obtain ⟨lo, hlq⟩ : ∃ lo, u.heap.size = lo := ⟨_, rfl⟩
  rw [hlq] at hls hlo hlz
  clear hlq
  obtain ⟨sv5, hsv5⟩ : ∃ z, z = segC (ansR r1) vq5 vh5 vc5 vp5 vi5 := ⟨_, rfl⟩
  rw [← hsv5]
  have hsz : (Tryz.prog.info? 31).map (·.size) = some sv5.size := by rw [hsv5]; exact size13R
  have hz2 : (#[.int .u8 0, .int .i64 0, .int .i64 0, .slice none 0 0, .slice none 0 0, .int .u8 0, .int .i64 0, .int .i64 0, .slice none 0 0, .slice none 0 0, .slice none 0 0, .int .i64 0, .string (ByteArray.mk #[])] : Array Value).size = sv5.size := by rw [hsv5]; rfl
  have hone : sv5.all (·.oneCell') = true := by rw [hsv5]; exact lists_one hls
  have HV5 := Lib.hid (And.intro hsv5 (And.intro hsz (And.intro hz2 hone))); clear hsv5 hsz hz2 hone
  have heo := hea.one
  go_upto_region 12 with (refine wpList_store_row rfl _ _ _ rfl _ _ rfl rfl _ _ (Blk.new w7 _ _) HV5.out.2.1 HV5.out.2.2.1 HV5.out.2.2.2 ?_)
  have hS5 : Blk ((w7.alloc (.cells #[.int .u8 0, .int .i64 0, .int .i64 0, .slice none 0 0, .slice none 0 0, .int .u8 0, .int .i64 0, .int .i64 0, .slice none 0 0, .slice none 0 0, .slice none 0 0, .int .i64 0, .string (ByteArray.mk #[])] 31)).setRow w7.heap.size sv5) w7.heap.size 31 sv5 := (Blk.new w7 _ _).row
  have hb : Below w7.heap.size w7 ((w7.alloc (.cells #[.int .u8 0, .int .i64 0, .int .i64 0, .slice none 0 0, .slice none 0 0, .int .u8 0, .int .i64 0, .int .i64 0, .slice none 0 0, .slice none 0 0, .slice none 0 0, .int .i64 0, .string (ByteArray.mk #[])] 31)).setRow w7.heap.size sv5) := grown_below (grown_row (grown_alloc (grown_of_below (Below.refl _ _) none) _) (.inl (Nat.le_refl _)) _)
  have hBT := below_then hBT hb
  have hls := hls.below hb
  have hea := hea.below hb
  have hT := hT.kept hb
  have htn : t ≠ w7.heap.size := by omega
  clear hb
  generalize ((w7.alloc (.cells #[.int .u8 0, .int .i64 0, .int .i64 0, .slice none 0 0, .slice none 0 0, .int .u8 0, .int .i64 0, .int .i64 0, .slice none 0 0, .slice none 0 0, .slice none 0 0, .int .i64 0, .string (ByteArray.mk #[])] 31)).setRow w7.heap.size sv5) = u3 at hBT hls hea hT hS5 ⊢
  generalize w7.heap.size = s5 at hS5 htn hlz ⊢
  have hto := told_u r1 ev u3 ((HE.out.below HU.out.2.2.2.2.2.2.2.2).below hBT) hea
  rw [HCP.out.1, HCP.out.2.1] at hto
  have HTO := Lib.hid hto; clear hto hea
  go_wp2_with fail
  refine HTO.out.mono ?_
  rintro e u4 ⟨rfl, hb⟩
  have hBT := below_then hBT hb
  have hT := hT.kept hb
  have hls := hls.below hb
  have hS5 := hS5.kept hb
  clear hb HTO
  have k0 := hT.cell 0
  have k1 := hT.cell 1
  have g0 := hT.frozen 0
  have g1 := hT.frozen 1
  have hT2 : Blk ((u4.setCell ⟨t, 0, none⟩ (.int .i64 c1)).setCell ⟨t, 1, none⟩ (.int .i64 p1)) t 34 #[.int .i64 c1, .int .i64 p1] := (hT.set 0 _).set 1 _
  have hSx := (hS5.far (p := ⟨t, 0, none⟩) (Ne.symm htn) (.int .i64 c1)).far (p := ⟨t, 1, none⟩) (Ne.symm htn) (.int .i64 p1)
  have hls4 : ListsL lo ((u4.setCell ⟨t, 0, none⟩ (.int .i64 c1)).setCell ⟨t, 1, none⟩ (.int .i64 p1)) (ansR r1) vq5 vh5 vc5 vp5 vi5 := hls.keep fun g hg _ => by
    rw [Below.heap_setCell _ _ _ g (show g ≠ t by omega), Below.heap_setCell _ _ _ g (show g ≠ t by omega)]
  have hBT4 : Below uT.heap.size uT ((u4.setCell ⟨t, 0, none⟩ (.int .i64 c1)).setCell ⟨t, 1, none⟩ (.int .i64 p1)) := grown_below (grown_write (p := ⟨t, 1, none⟩) (grown_write (p := ⟨t, 0, none⟩) (below_grown hBT none) (.inl (Nat.le_of_eq HN.out)) _) (.inl (Nat.le_of_eq HN.out)) _)
  clear hT hS5 hls hBT
  go_upto_region 13 with fail
  clear k0 k1 g0 g1 heo
  generalize ((u4.setCell ⟨t, 0, none⟩ (.int .i64 c1)).setCell ⟨t, 1, none⟩ (.int .i64 p1)) = u at hT2 hSx hls4 hBT4 ⊢
  have hT := hT2
  have hS5 := hSx
  have hls := hls4
  have hBT := hBT4
  clear hT2 hSx hls4 hBT4
  have hsp := spoil_any lo u.heap.size (ansR r1) vq5 vh5 vc5 vp5 vi5 u (SpIn.of_lists hls HO1.out.1 HO1.out.2.1) (Nat.le_refl _) HO1.out.1
  rw [← HV5.out.1] at hsp
  have HSP := Lib.hid hsp; clear hsp hls
  go_wp2_with (refine wpList_load_row rfl _ _ rfl s5 rfl _ _ _ _ hS5 Tryz.underlying31 rfl HV5.out.2.1 ?_)
  refine HSP.out.mono ?_
  rintro e u5 ⟨⟨r9, rfl⟩, hwr⟩
  have hb : Below lo u u5 := hwr.under (by have := hS5.lt; omega)
  have hT := hT.below hb hlo
  have hBT := hBT.trans (hb.mono (by have := HN.out; omega))
  clear hb hwr HSP hS5 hlo htn hlz
  generalize u5 = u at hT hBT ⊢
  have k0 : u.cell? ⟨t, 0, none⟩ = some (.int .i64 c1) := by rw [hT.cell]; rfl
  have k1 : u.cell? ⟨t, 1, none⟩ = some (.int .i64 p1) := by rw [hT.cell]; rfl
  have hff := HU.out.2.1.kept hBT
  have k2 : u.cell? ⟨f1, 0, none⟩ = some (.int .i64 c1) := by rw [hff.cell]; rfl
  have k3 : u.cell? ⟨f1, 1, none⟩ = some (.int .i64 p1) := by rw [hff.cell]; rfl
  clear hff
  have hsa := HU.out.2.2.2.2.2.2.1.kept hBT
  have hsb := HU.out.1.kept hBT
  have hra := (fun j v hv => by rw [Nat.zero_add, hsa.cell, ← Array.getElem?_toList]; exact hv : u.rangeAt s3 0 sv3.toList)
  have hrb := (fun j v hv => by rw [Nat.zero_add, hsb.cell, ← Array.getElem?_toList]; exact hv : u.rangeAt s1 0 sv1.toList)
  have hsm := same_u (ansR r1) vq3 vh3 vc3 vp3 vi3 vq1 vh1 vc1 vp1 vi1 u (HU.out.2.2.2.2.2.2.2.1.below hBT) ((HU.out.2.2.1).below hBT) HO1.out.1 HO1.out.2.2
  rw [← HV3.out.1, ← HV1.out.1] at hsm
  have HSM := Lib.hid (And.intro hsm (And.intro hra (And.intro hrb (And.intro (by rw [Array.length_toList]; exact HV3.out.2.1 : (Tryz.prog.info? 31).map (·.size) = some sv3.toList.length) (by rw [Array.length_toList]; exact HV1.out.2.1 : (Tryz.prog.info? 31).map (·.size) = some sv1.toList.length)))))
  clear hsm hra hrb hsa hsb
  go_wp2_with (first | (refine wpList_load_mid_g (by kernel_rfl) _ _ rfl s3 0 rfl _ _ HSM.out.2.1 Tryz.underlying31 rfl HSM.out.2.2.2.1 ?_) | (refine wpList_load_mid_g (by kernel_rfl) _ _ rfl s1 0 rfl _ _ HSM.out.2.2.1 Tryz.underlying31 rfl HSM.out.2.2.2.2 ?_))
  refine HSM.out.1.mono ?_
  rintro e u2 ⟨rfl, hb⟩
  have hBT := below_then hBT hb
  have hB := below_then HU.out.2.2.2.2.2.2.2.2 hBT
  clear hb HSM k0 k1 k2 k3 hBT hT
  go_wp2_with fail
  go_ret
  exact ⟨rfl, hB⟩
end Go.Proofs.YtjfgfoeenajneaaGreatDoor.Sg
