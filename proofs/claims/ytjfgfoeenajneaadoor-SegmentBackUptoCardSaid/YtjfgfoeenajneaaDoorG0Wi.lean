/- SegmentText: of any segment, its bytes, or the error; what is handed in stays. -/
import Derived.Test.YtjfgfoeenajneaaDoorGC8
import Derived.Test.YtjfgfoeenajneaaDoorGD0
import Derived.Test.YtjfgfoeenajneaaDoorGC9
namespace Go.Proofs.YtjfgfoeenajneaaDoor.Sg
open Go.RowKit

/-- the bytes and the number of an answer -/
def rT : Res (List UInt8) → List UInt8 | .bad _ => [] | .ok t => t
def rC : Res (List UInt8) → Nat | .bad c => c | .ok _ => 0
theorem StrP.out {w w' : World} {r : Res (List UInt8)} {e : Ending} (h : StrP w r e w') : e = .returned (.tuple #[.string (Bs (rT r)), .int .i64 (rC r : Nat)]) ∧ Below w.heap.size w w' := by
  cases r <;> exact h
theorem seg_load_g {P : Program} {ops : Array Oper} {rest : List Oper} {op : Oper} {a : Act} {w : World} {Q : Exit → Act → World → Prop} (hw : Region.wanted op (yielded ops a.tmps) = true) (ty : TypeId) (x : Operand) (ho : op.op = .load ty x)
    (b : Nat) (hx : a.eval x = .pointer (some ⟨b, 0, none⟩)) (t : TypeId) (cs : Array Value) (d : TypeDesc) (hb : Blk w b t cs)
    (hu : P.underlying ty = some d) (hd : d.isRow = true) (hi : (P.info? ty).map (·.size) = some cs.size)
    (h : wpList P ops Q rest (a.put op.dst (.agg cs)) w) : wpList P ops Q (op :: rest) a w := by
  have hr : w.rangeAt b 0 cs.toList := hb.range 0 cs.toList (by rw [List.drop_zero, List.take_of_length_le (Nat.le_refl _)])
  refine wpList_load_mid_g hw ty x ho b 0 hx cs.toList d hr hu hd (by simpa using hi) ?_
  simpa using h
set_option maxRecDepth 100000 in
set_option maxHeartbeats 16000000 in
theorem segText_law (m : SegM) (vq vh vc vp vi : Value) (w : World) (hev : ErrT w) (hm : SegAt w m vq vh vc vp vi) (hok : SegOk m) (hfew : ∀ h ∈ m.huffs, h.vals.length ≤ 10000000000) (hwf : ∀ p ∈ m.parts, (Lit.int .i64 p.comp).wf = true) :
    Calls Tryd.prog 3 #[.agg (segC m vq vh vc vp vi)] w fun e w' => e = .returned (.bool true) ∧ Below w.heap.size w w' := by
  have HOK := Lib.hid (And.intro hok (And.intro hfew hwf)); clear hok hfew hwf
  have hone : (segC m vq vh vc vp vi).size = 13 := rfl
  obtain ⟨sv, hsv⟩ : ∃ x, x = segC m vq vh vc vp vi := ⟨_, rfl⟩
  rw [← hsv]
  have HSV := Lib.hid hsv; clear hsv hone
  have hsz : (Tryd.prog.info? 30).map (·.size) = some sv.size := by rw [HSV.out]; exact size13R
  have HSZ := Lib.hid hsz; clear hsz
  have HM := Lib.hid hm; clear hm
  go_enter Tryd.func3, Tryd.ntmps3
  go_upto_region 1 with fail
  have hS1 := Blk.new w 30 sv
  have hb1 : Below w.heap.size w (w.alloc (.cells sv 30)) := (Below.refl _ _).alloc (Nat.le_refl _) _
  have hev1 := hev.below hb1
  generalize w.alloc (.cells sv 30) = w1 at hS1 hb1 hev1 ⊢
  obtain ⟨s, hs⟩ : ∃ s, w.heap.size = s := ⟨_, rfl⟩
  rw [hs] at hS1
  simp only [hs]
  have HS := Lib.hid hs; clear hs hev
  have HAW := Lib.hid (awake_any w1 hev1); clear hev1
  go_wp2_with fail
  refine HAW.out.mono ?_
  rintro e w2 ⟨rfl, hb⟩
  have hS2 := hS1.kept hb
  have hb2 := below_then hb1 hb
  clear hS1 hb1 hb HAW
  have ht := text15_any m vq vh vc vp vi w2 (HM.out.below hb2) HOK.out.1
  rw [← HSV.out] at ht
  have HT := Lib.hid ht; clear ht
  go_wp2_with (refine wpList_load_row rfl _ _ rfl s rfl _ _ _ _ hS2 Tryd.underlying30 rfl HSZ.out ?_)
  refine HT.out.mono ?_
  intro e w3 he
  obtain ⟨rfl, hb⟩ := he.out
  have hS3 := hS2.kept hb
  have hb3 := below_then hb2 hb
  clear hS2 hb2 hb HT he
  obtain ⟨tx, htx⟩ : ∃ x, x = Bs (rT (textM m)) := ⟨_, rfl⟩
  obtain ⟨tc, htc⟩ : ∃ x, x = rC (textM m) := ⟨_, rfl⟩
  rw [← htx, ← htc]
  have HTX := Lib.hid (And.intro htx htc); clear htx htc
  have ht := twin_any m vq vh vc vp vi w3 (HM.out.below hb3) HOK.out.1 HOK.out.2.1
  rw [← HSV.out] at ht
  have HT := Lib.hid ht; clear ht
  go_wp2_with (refine wpList_load_row rfl _ _ rfl s rfl _ _ _ _ hS3 Tryd.underlying30 rfl HSZ.out ?_)
  refine HT.out.mono ?_
  rintro e w4 ⟨a, b, c, p, x, rfl, hl, hb⟩
  have hS4 := hS3.kept hb
  have hb4 := below_then hb3 hb
  clear hS3 hb3 hb HT
  have hone : (segC m a b c p x).all (·.oneCell') = true := one13 _ _ _ _ _ _ (own_one hl.q) (by obtain ⟨_, _, h9, _⟩ := hl.h; exact own_one h9) (own_one hl.c) (own_one hl.p) (own_one hl.i)
  have HA := Lib.hid (And.intro (hl.at_) hone); clear hl hone
  obtain ⟨tv, htv⟩ : ∃ x9, x9 = segC m a b c p x := ⟨_, rfl⟩
  rw [← htv]
  have HTV := Lib.hid htv; clear htv
  have htz : (Tryd.prog.info? 30).map (·.size) = some tv.size := by rw [HTV.out]; exact size13R
  have HTZ := Lib.hid htz; clear htz
  go_upto_region 4 with (refine wpList_store_row rfl _ _ _ rfl _ _ rfl rfl _ _ (Blk.new w4 _ _) HTZ.out (by rw [HTV.out]; rfl) (by rw [HTV.out]; exact HA.out.2) ?_)
  have hD5 : Blk ((w4.alloc (.cells #[.int .u8 0, .int .i64 0, .int .i64 0, .slice none 0 0, .slice none 0 0, .int .u8 0, .int .i64 0, .int .i64 0, .slice none 0 0, .slice none 0 0, .slice none 0 0, .int .i64 0, .string (ByteArray.mk #[])] 30)).setRow w4.heap.size tv) w4.heap.size 30 tv := (Blk.new w4 _ _).row
  have hb : Below w4.heap.size w4 ((w4.alloc (.cells #[.int .u8 0, .int .i64 0, .int .i64 0, .slice none 0 0, .slice none 0 0, .int .u8 0, .int .i64 0, .int .i64 0, .slice none 0 0, .slice none 0 0, .slice none 0 0, .int .i64 0, .string (ByteArray.mk #[])] 30)).setRow w4.heap.size tv) := grown_below (grown_row (grown_alloc (grown_of_below (Below.refl _ _) none) _) (.inl (Nat.le_refl _)) _)
  generalize ((w4.alloc (.cells #[.int .u8 0, .int .i64 0, .int .i64 0, .slice none 0 0, .slice none 0 0, .int .u8 0, .int .i64 0, .int .i64 0, .slice none 0 0, .slice none 0 0, .slice none 0 0, .int .i64 0, .string (ByteArray.mk #[])] 30)).setRow w4.heap.size tv) = w5 at hD5 hb ⊢
  have hS5 := hS4.kept hb
  have hb5 := below_then hb4 hb
  have hat5 := HA.out.1.below hb
  obtain ⟨d, hd⟩ : ∃ d, w4.heap.size = d := ⟨_, rfl⟩
  rw [hd] at hD5
  simp only [hd]
  have HD := Lib.hid hd; clear hd
  clear hS4 hb4 hb
  have ht := text_any m a b c p x w5 hat5 HOK.out.1
  rw [← HTV.out] at ht
  have HT := Lib.hid ht; clear ht
  have HAT := Lib.hid hat5; clear hat5
  go_wp2_with (refine wpList_load_row rfl _ _ rfl d rfl _ _ _ _ hD5 Tryd.underlying30 rfl HTZ.out ?_)
  refine HT.out.mono ?_
  intro e w6 he
  obtain ⟨rfl, hb⟩ := he.out
  rw [← HTX.out.1, ← HTX.out.2]
  have hS6 := hS5.kept hb
  have hD6 := hD5.kept hb
  have hb6 := below_then hb5 hb
  have hat6 := HAT.out.below hb
  clear hS5 hD5 hb5 hb HT he HAT
  have ht := text_any m a b c p x w6 hat6 HOK.out.1
  rw [← HTV.out] at ht
  have HT := Lib.hid ht; clear ht
  have HAT := Lib.hid hat6; clear hat6
  go_wp2_with (refine wpList_load_row rfl _ _ rfl d rfl _ _ _ _ hD6 Tryd.underlying30 rfl HTZ.out ?_)
  refine HT.out.mono ?_
  intro e w7 he
  obtain ⟨rfl, hb⟩ := he.out
  rw [← HTX.out.1, ← HTX.out.2]
  have hS7 := hS6.kept hb
  have hD7 := hD6.kept hb
  have hb7 := below_then hb6 hb
  have hat7 := HAT.out.below hb
  clear hS6 hD6 hb6 hb HT he HAT
  have ht := same_true m a b c p x vq vh vc vp vi w7 hat7 (HM.out.below hb7) HOK.out.1 HOK.out.2.2
  rw [← HTV.out, ← HSV.out] at ht
  have HT := Lib.hid ht; clear ht hat7
  go_wp2_with (first | (refine seg_load_g (by first | rfl | simp [Region.wanted, yielded]) _ _ rfl d rfl _ _ _ hD7 Tryd.underlying30 rfl HTZ.out ?_) | (refine seg_load_g (by first | rfl | simp [Region.wanted, yielded]) _ _ rfl s rfl _ _ _ hS7 Tryd.underlying30 rfl HSZ.out ?_))
  refine HT.out.mono ?_
  rintro e w8 ⟨rfl, hb⟩
  have hb8 := below_then hb7 hb
  go_wp2_with fail
  go_ret
  exact ⟨rfl, hb8⟩
end Go.Proofs.YtjfgfoeenajneaaDoor.Sg
