/- A segment with the fields alone that its code has. -/
import Derived.Test.YtjfgfoeenajneaaDoorGD2
import Derived.Test.YtjfgfoeenajneaaDoorGD0
import Derived.Test.YtjfgfoeenajneaaDoorGC8
namespace Go.Proofs.YtjfgfoeenajneaaDoor.Sg
open Go.RowKit

theorem SegAt.keep {u u' : World} {m : SegM} {vq vh vc vp vi : Value} (h : SegAt u m vq vh vc vp vi) (hk : ∀ p v, u.cell? p = some v → u'.cell? p = some v) : SegAt u' m vq vh vc vp vi := by
  have hr : ∀ {s : Nat} {A : Option Addr} {n : Nat} {xs : List Value}, Rows s u A n xs → Rows s u' A n xs := fun {s A n xs} h => by
    refine ⟨h.1, fun hn => ?_⟩
    obtain ⟨b, o, hA, hc⟩ := h.2 hn
    refine ⟨b, o, hA, fun j hj => ?_⟩
    have hj' : j < xs.length := by rw [h.1]; exact hj
    have := hc j hj
    rw [List.getElem?_eq_getElem hj'] at this ⊢
    exact hk _ _ this
  obtain ⟨⟨a1, a2, a3, a4⟩, ⟨b1, b2, b3, b4, b5, b6, b7⟩, ⟨c1, c2, c3, c4, c5⟩, ⟨d1, d2, d3, d4⟩, ⟨e1, e2, e3, e4⟩⟩ := h
  exact ⟨⟨a1, a2, a3, hr a4⟩, ⟨b1, b2, b3, b4, b5, hr b6, fun p hp => (by
    obtain ⟨A, c, h1, h2, h3⟩ := b7 p hp
    exact ⟨A, c, h1, h2.keep hk, h3⟩)⟩, ⟨c1, c2, c3, hr c4, c5⟩, ⟨d1, d2, d3, hr d4⟩, ⟨e1, e2, e3, e4.keep hk⟩⟩
/-- the list of one kind, the others empty -/
theorem at_q {u : World} {m : SegM} {vq vh vc vp vi : Value} {l : List QuantM} (h : SegAt u m vq vh vc vp vi) (c : Nat) (a b : Int) (hl : l = m.quants) : SegAt u { SegM.none_ with code := c, at_ := a, end_ := b, quants := l } vq nilS nilS nilS nilS := by
  subst hl
  have h0 := nil_at u SegM.none_ rfl rfl rfl rfl rfl
  exact ⟨h.q, h0.h, h0.c, h0.p, h0.i⟩
theorem at_h {u : World} {m : SegM} {vq vh vc vp vi : Value} {l : List HuffM} (h : SegAt u m vq vh vc vp vi) (c : Nat) (a b : Int) (hl : l = m.huffs) : SegAt u { SegM.none_ with code := c, at_ := a, end_ := b, huffs := l } nilS vh nilS nilS nilS := by
  subst hl
  have h0 := nil_at u SegM.none_ rfl rfl rfl rfl rfl
  exact ⟨h0.q, h.h, h0.c, h0.p, h0.i⟩
theorem at_c {u : World} {m : SegM} {vq vh vc vp vi : Value} (h : SegAt u m vq vh vc vp vi) (c k : Nat) (a b wd ht : Int) : SegAt u { SegM.none_ with code := c, at_ := a, end_ := b, kind := k, width := wd, height := ht, comps := m.comps } nilS nilS vc nilS nilS := by
  have h0 := nil_at u SegM.none_ rfl rfl rfl rfl rfl
  exact ⟨h0.q, h0.h, h.c, h0.p, h0.i⟩
def zeroP (p : PartM) : PartM := { p with comp := 0 }
theorem at_p {u : World} {m : SegM} {vq vh vc vp vi v : Value} {base : Nat} (h : SegAt u m vq vh vc vp vi) (c : Nat) (a b : Int) (hp : u.ownsRow base 69 3 v m.parts.length ((m.parts.map zeroP).flatMap partC)) : SegAt u { SegM.none_ with code := c, at_ := a, end_ := b, ids := m.ids, parts := m.parts.map fun p => { p with comp := 0 } } nilS nilS nilS v vi := by
  have h0 := nil_at u SegM.none_ rfl rfl rfl rfl rfl
  obtain ⟨A, k, rfl, r, _⟩ := own_rws hp
  have hl : (m.parts.map zeroP).length = m.parts.length := List.length_map _
  exact ⟨h0.q, h0.h, h0.c, ⟨A, k, by show _ = Value.slice A (m.parts.map zeroP).length k; rw [hl], by show Rows 3 u A (m.parts.map zeroP).length _; rw [hl]; exact r⟩, h.i⟩
theorem at_0 {u : World} (c : Nat) (a b : Int) (rs : Int) (d : List UInt8) : SegAt u { SegM.none_ with code := c, at_ := a, end_ := b, restart := rs, data := d } nilS nilS nilS nilS nilS := by
  have h0 := nil_at u SegM.none_ rfl rfl rfl rfl rfl
  exact ⟨h0.q, h0.h, h0.c, h0.p, h0.i⟩
theorem sz4P : (Tryd.prog.info? 26).map (·.size) = some 4 := by kernel_rfl
theorem sz3Q : (Tryd.prog.info? 69).map (·.size) = some 3 := by kernel_rfl
theorem setCells4 (u : World) (b : Nat) (x y z v : Value) : u.setCells b 5 [x, y, z, v] = (((u.setCell ⟨b, 5, none⟩ x).setCell ⟨b, 6, none⟩ y).setCell ⟨b, 7, none⟩ z).setCell ⟨b, 8, none⟩ v := rfl
theorem plain_q {m : SegM} (a b : Int) (h : m.code = 219) : plainM m a b = { SegM.none_ with code := 219, at_ := a, end_ := b, quants := m.quants } := by unfold plainM; simp only [h]; rfl
theorem plain_h {m : SegM} (a b : Int) (h : m.code = 196) : plainM m a b = { SegM.none_ with code := 196, at_ := a, end_ := b, huffs := m.huffs } := by unfold plainM; simp only [h]; rfl
theorem plain_f {m : SegM} (a b : Int) (c : Nat) (h : m.code = c) (hc : c = 192 ∨ c = 193) : plainM m a b = { SegM.none_ with code := c, at_ := a, end_ := b, kind := c, width := m.width, height := m.height, comps := m.comps } := by
  unfold plainM
  rw [h, if_neg (by omega), if_neg (by omega), if_pos hc]
theorem plain_s {m : SegM} (a b : Int) (h : m.code = 218) : plainM m a b = { SegM.none_ with code := 218, at_ := a, end_ := b, ids := m.ids, parts := m.parts.map fun p => { p with comp := 0 } } := by unfold plainM; simp only [h]; rfl
theorem plain_r {m : SegM} (a b : Int) (h : m.code = 221) : plainM m a b = { SegM.none_ with code := 221, at_ := a, end_ := b, restart := m.restart } := by unfold plainM; simp only [h]; rfl
theorem plain_d {m : SegM} (a b : Int) (c : Nat) (h : m.code = c) (hc : ¬ (c = 219 ∨ c = 196 ∨ c = 192 ∨ c = 193 ∨ c = 218 ∨ c = 221)) : plainM m a b = { SegM.none_ with code := c, at_ := a, end_ := b, data := m.data } := by
  unfold plainM
  rw [h, if_neg (by omega), if_neg (by omega), if_neg (by omega), if_neg (by omega), if_neg (by omega)]
/-- the end of the way: what is made is handed out -/
def PlQ (m : SegM) (a b : Int) (w : World) (e : Ending) (w' : World) : Prop := ∃ vq vh vc vp vi, e = .returned (.agg (segC (plainM m a b) vq vh vc vp vi)) ∧ SegAt w' (plainM m a b) vq vh vc vp vi ∧ Below w.heap.size w w'
theorem at_one {u : World} {m : SegM} {vq vh vc vp vi : Value} (h : SegAt u m vq vh vc vp vi) : (segC m vq vh vc vp vi).all (·.oneCell') = true := by
  obtain ⟨⟨a1, a2, rfl, _⟩, ⟨b1, b2, b3, rfl, _⟩, ⟨c1, c2, rfl, _⟩, ⟨d1, d2, rfl, _⟩, ⟨e1, e2, rfl, _⟩⟩ := h
  exact one13 _ _ _ _ _ _ rfl rfl rfl rfl rfl
theorem at_row {u : World} {m : SegM} {vq vh vc vp vi : Value} {w : World} {s r d : Nat} {ss rs ds ns : Array Value} (hI : TwI w u s r d ss rs ds) (h : SegAt w m vq vh vc vp vi) : SegAt (u.setRow r ns) m vq vh vc vp vi :=
  h.below (grown_below (grown_row (grown_of_below hI.b none) (.inl (by have := hI.ne; omega)) _))
set_option maxRecDepth 100000 in
set_option maxHeartbeats 16000000 in
theorem plainly_any (m : SegM) (vq vh vc vp vi : Value) (a b : Int) (w : World) (hm : SegAt w m vq vh vc vp vi) (hok : SegOk m) :
    Calls Tryd.prog 15 #[.agg (segC m vq vh vc vp vi), .int .i64 a, .int .i64 b] w (PlQ m a b w) := by
  have HM := Lib.hid hm
  have HOK := Lib.hid hok
  have hfp := hok.fewP
  have hcode := hok.code
  obtain ⟨ss, hss⟩ : ∃ x, x = segC m vq vh vc vp vi := ⟨_, rfl⟩
  rw [← hss]
  have HSS := Lib.hid hss; clear hss hm hok
  go_enter Tryd.func15, Tryd.ntmps15
  go_upto_region 1 with fail
  have hS1 : Blk ((w.alloc (.cells ss 30)).alloc (.cells #[.int .u8 0, .int .i64 0, .int .i64 0, .slice none 0 0, .slice none 0 0, .int .u8 0, .int .i64 0, .int .i64 0, .slice none 0 0, .slice none 0 0, .slice none 0 0, .int .i64 0, .string (ByteArray.mk #[])] 30)) w.heap.size 30 ss := (Blk.new w _ _).alloc _
  have hR1 : Blk ((w.alloc (.cells ss 30)).alloc (.cells #[.int .u8 0, .int .i64 0, .int .i64 0, .slice none 0 0, .slice none 0 0, .int .u8 0, .int .i64 0, .int .i64 0, .slice none 0 0, .slice none 0 0, .slice none 0 0, .int .i64 0, .string (ByteArray.mk #[])] 30)) (w.heap.size + 1) 30 #[.int .u8 0, .int .i64 0, .int .i64 0, .slice none 0 0, .slice none 0 0, .int .u8 0, .int .i64 0, .int .i64 0, .slice none 0 0, .slice none 0 0, .slice none 0 0, .int .i64 0, .string (ByteArray.mk #[])] := by
    have h9 := Blk.new (w.alloc (.cells ss 30)) 30 #[.int .u8 0, .int .i64 0, .int .i64 0, .slice none 0 0, .slice none 0 0, .int .u8 0, .int .i64 0, .int .i64 0, .slice none 0 0, .slice none 0 0, .slice none 0 0, .int .i64 0, .string (ByteArray.mk #[])]
    rwa [show (w.alloc (.cells ss 30)).heap.size = w.heap.size + 1 by simp] at h9
  have hb1 : Below w.heap.size w ((w.alloc (.cells ss 30)).alloc (.cells #[.int .u8 0, .int .i64 0, .int .i64 0, .slice none 0 0, .slice none 0 0, .int .u8 0, .int .i64 0, .int .i64 0, .slice none 0 0, .slice none 0 0, .slice none 0 0, .int .i64 0, .string (ByteArray.mk #[])] 30)) := ((Below.refl _ _).alloc (Nat.le_refl _) _).alloc (by simp) _
  have hz1 : ((w.alloc (.cells ss 30)).alloc (.cells #[.int .u8 0, .int .i64 0, .int .i64 0, .slice none 0 0, .slice none 0 0, .int .u8 0, .int .i64 0, .int .i64 0, .slice none 0 0, .slice none 0 0, .slice none 0 0, .int .i64 0, .string (ByteArray.mk #[])] 30)).heap.size = w.heap.size + 2 := by simp
  generalize ((w.alloc (.cells ss 30)).alloc (.cells #[.int .u8 0, .int .i64 0, .int .i64 0, .slice none 0 0, .slice none 0 0, .int .u8 0, .int .i64 0, .int .i64 0, .slice none 0 0, .slice none 0 0, .slice none 0 0, .int .i64 0, .string (ByteArray.mk #[])] 30)) = w1 at hS1 hR1 hb1 hz1 ⊢
  obtain ⟨s, hs⟩ : ∃ s, w.heap.size = s := ⟨_, rfl⟩
  rw [hs] at hS1 hR1 hz1
  simp only [hs]
  have HSN := Lib.hid hs; clear hs
  obtain ⟨c, hc⟩ : ∃ c, m.code = c := ⟨_, rfl⟩
  rw [hc] at hcode
  have c0 : w1.cell? ⟨s, 0, none⟩ = some (.int .u8 (c : Int)) := by rw [hS1.cell, HSS.out, ← hc]; rfl
  have HCD := Lib.hid hc; clear hc
  have hD1 : Blk (w1.alloc (.cells #[.int .u8 0, .int .i64 0, .int .i64 0, .slice none 0 0, .slice none 0 0, .int .u8 0, .int .i64 0, .int .i64 0, .slice none 0 0, .slice none 0 0, .slice none 0 0, .int .i64 0, .string (ByteArray.mk #[])] 30)) (s + 2) 30 #[.int .u8 0, .int .i64 0, .int .i64 0, .slice none 0 0, .slice none 0 0, .int .u8 0, .int .i64 0, .int .i64 0, .slice none 0 0, .slice none 0 0, .slice none 0 0, .int .i64 0, .string (ByteArray.mk #[])] := by
    have h9 := Blk.new w1 30 #[.int .u8 0, .int .i64 0, .int .i64 0, .slice none 0 0, .slice none 0 0, .int .u8 0, .int .i64 0, .int .i64 0, .slice none 0 0, .slice none 0 0, .slice none 0 0, .int .i64 0, .string (ByteArray.mk #[])]
    rwa [hz1] at h9
  have HBL := Lib.hid (show (segC (blank c a b) nilS nilS nilS nilS nilS).all (·.oneCell') = true from one13 _ _ _ _ _ _ rfl rfl rfl rfl rfl)
  go_upto_region 3 with (refine wpList_store_row rfl _ _ _ rfl _ (segC (blank c a b) nilS nilS nilS nilS nilS) rfl rfl _ _ hD1 size13R rfl HBL.out ?_)
  have hI : TwI w ((w1.alloc (.cells #[.int .u8 0, .int .i64 0, .int .i64 0, .slice none 0 0, .slice none 0 0, .int .u8 0, .int .i64 0, .int .i64 0, .slice none 0 0, .slice none 0 0, .slice none 0 0, .int .i64 0, .string (ByteArray.mk #[])] 30)).setRow (s + 2) (segC (blank c a b) nilS nilS nilS nilS nilS)) s (s + 1) (s + 2) ss #[.int .u8 0, .int .i64 0, .int .i64 0, .slice none 0 0, .slice none 0 0, .int .u8 0, .int .i64 0, .int .i64 0, .slice none 0 0, .slice none 0 0, .slice none 0 0, .int .i64 0, .string (ByteArray.mk #[])] (segC (blank c a b) nilS nilS nilS nilS nilS) := by
    have hbb : Below w1.heap.size w1 ((w1.alloc (.cells #[.int .u8 0, .int .i64 0, .int .i64 0, .slice none 0 0, .slice none 0 0, .int .u8 0, .int .i64 0, .int .i64 0, .slice none 0 0, .slice none 0 0, .slice none 0 0, .int .i64 0, .string (ByteArray.mk #[])] 30)).setRow (s + 2) (segC (blank c a b) nilS nilS nilS nilS nilS)) := grown_below (grown_row (grown_alloc (grown_of_below (Below.refl _ _) none) _) (.inl (by omega)) _)
    exact ⟨hS1.kept hbb, hR1.kept hbb, hD1.row, below_then hb1 hbb, by rw [HSN.out]; omega⟩
  generalize ((w1.alloc (.cells #[.int .u8 0, .int .i64 0, .int .i64 0, .slice none 0 0, .slice none 0 0, .int .u8 0, .int .i64 0, .int .i64 0, .slice none 0 0, .slice none 0 0, .slice none 0 0, .int .i64 0, .string (ByteArray.mk #[])] 30)).setRow (s + 2) (segC (blank c a b) nilS nilS nilS nilS nilS)) = u1 at hI ⊢
  clear hS1 hR1 hb1 hz1 hD1 c0
  generalize hrr : s + 1 = r at hI ⊢
  generalize hdd : s + 2 = d at hI ⊢
  have HRD := Lib.hid (And.intro hrr hdd); clear hrr hdd
  have c0 : u1.cell? ⟨s, 0, none⟩ = some (.int .u8 (c : Int)) := (hI.cell 0).1.trans (by rw [HSS.out, ← HCD.out]; rfl)
  rcases (show c = 219 ∨ c = 196 ∨ c = 192 ∨ c = 193 ∨ c = 221 ∨ c = 218 ∨ ¬ (c = 219 ∨ c = 196 ∨ c = 192 ∨ c = 193 ∨ c = 218 ∨ c = 221) by omega) with rfl | rfl | rfl | rfl | rfl | rfl | hcn
  · skip
    obtain ⟨vqA, vqn, vqc, hvq⟩ : ∃ A n c, vq = .slice A n c := by obtain ⟨A, k, h9, _⟩ := HM.out.q; exact ⟨A, _, k, h9⟩
    subst hvq
    have hc3 : ss[3]? = some (.slice vqA vqn vqc) := by rw [HSS.out]; rfl
    have d3 : u1.cell? ⟨s, 3, none⟩ = some (.slice vqA vqn vqc) := (hI.cell 3).1.trans hc3
    have e3 : u1.cell? ⟨d, 3, none⟩ = some nilS := (hI.cell 3).2.1.trans rfl
    have f3 : u1.frozen? ⟨d, 3, none⟩ = false := (hI.cell 3).2.2
    go_upto_region 20 with fail
    have hI8 := hI.setD 3 (.slice vqA vqn vqc)
    have HM9 := Lib.hid (HM.out.below hI8.b)
    clear hI hc3 d3 e3 f3 c0
    generalize u1.setCell ⟨d, 3, none⟩ (.slice vqA vqn vqc) = u9 at hI8 HM9 ⊢
    have hpl : plainM m a b = ({ SegM.none_ with code := 219, at_ := a, end_ := b, quants := m.quants } : SegM) := plain_q a b HCD.out
    have HPL := Lib.hid hpl; clear hpl
    have hat9 : SegAt u9 ({ SegM.none_ with code := 219, at_ := a, end_ := b, quants := m.quants } : SegM) (.slice vqA vqn vqc) nilS nilS nilS nilS := at_q HM9.out 219 a b rfl
    have hI9 : TwI w u9 s r d ss #[.int .u8 0, .int .i64 0, .int .i64 0, .slice none 0 0, .slice none 0 0, .int .u8 0, .int .i64 0, .int .i64 0, .slice none 0 0, .slice none 0 0, .slice none 0 0, .int .i64 0, .string (ByteArray.mk #[])] (segC ({ SegM.none_ with code := 219, at_ := a, end_ := b, quants := m.quants } : SegM) (.slice vqA vqn vqc) nilS nilS nilS nilS) := hI8
    have HO := Lib.hid (at_one hat9); clear hat9 hI8
    have hD9 := hI9.D
    have hR9 := hI9.R
    go_wp2_with (first | (refine wpList_load_row rfl _ _ rfl d rfl _ _ _ _ hD9 Tryd.underlying30 rfl size13R ?_) | (refine wpList_store_row rfl _ _ _ rfl _ _ rfl rfl _ _ hR9 size13R rfl HO.out ?_))
    have hbl : Below w.heap.size w (u9.setRow r (segC ({ SegM.none_ with code := 219, at_ := a, end_ := b, quants := m.quants } : SegM) (.slice vqA vqn vqc) nilS nilS nilS nilS)) := grown_below (grown_row (grown_of_below hI9.b none) (.inl (by have := hI9.ne; omega)) _)
    refine bodyPost_ret (results_cell_row rfl _ _ r 30 (segC ({ SegM.none_ with code := 219, at_ := a, end_ := b, quants := m.quants } : SegM) (.slice vqA vqn vqc) nilS nilS nilS nilS) (0, 0) _ rfl hR9.row Tryd.underlying30 rfl size13R) rfl ?_
    refine ⟨(.slice vqA vqn vqc), nilS, nilS, nilS, nilS, ?_, ?_, hbl⟩
    · rw [HPL.out]
    · rw [HPL.out]
      exact at_q (HM.out.below hbl) 219 a b rfl
  · skip
    obtain ⟨vqA, vqn, vqc, hvq⟩ : ∃ A n c, vh = .slice A n c := by obtain ⟨A, k, _, h9, _⟩ := HM.out.h; exact ⟨A, _, k, h9⟩
    subst hvq
    have hc4 : ss[4]? = some (.slice vqA vqn vqc) := by rw [HSS.out]; rfl
    have d4 : u1.cell? ⟨s, 4, none⟩ = some (.slice vqA vqn vqc) := (hI.cell 4).1.trans hc4
    have e4 : u1.cell? ⟨d, 4, none⟩ = some nilS := (hI.cell 4).2.1.trans rfl
    have f4 : u1.frozen? ⟨d, 4, none⟩ = false := (hI.cell 4).2.2
    go_upto_region 20 with fail
    have hI8 := hI.setD 4 (.slice vqA vqn vqc)
    have HM9 := Lib.hid (HM.out.below hI8.b)
    clear hI hc4 d4 e4 f4 c0
    generalize u1.setCell ⟨d, 4, none⟩ (.slice vqA vqn vqc) = u9 at hI8 HM9 ⊢
    have hpl : plainM m a b = ({ SegM.none_ with code := 196, at_ := a, end_ := b, huffs := m.huffs } : SegM) := plain_h a b HCD.out
    have HPL := Lib.hid hpl; clear hpl
    have hat9 : SegAt u9 ({ SegM.none_ with code := 196, at_ := a, end_ := b, huffs := m.huffs } : SegM) nilS (.slice vqA vqn vqc) nilS nilS nilS := at_h HM9.out 196 a b rfl
    have hI9 : TwI w u9 s r d ss #[.int .u8 0, .int .i64 0, .int .i64 0, .slice none 0 0, .slice none 0 0, .int .u8 0, .int .i64 0, .int .i64 0, .slice none 0 0, .slice none 0 0, .slice none 0 0, .int .i64 0, .string (ByteArray.mk #[])] (segC ({ SegM.none_ with code := 196, at_ := a, end_ := b, huffs := m.huffs } : SegM) nilS (.slice vqA vqn vqc) nilS nilS nilS) := hI8
    have HO := Lib.hid (at_one hat9); clear hat9 hI8
    have hD9 := hI9.D
    have hR9 := hI9.R
    go_wp2_with (first | (refine wpList_load_row rfl _ _ rfl d rfl _ _ _ _ hD9 Tryd.underlying30 rfl size13R ?_) | (refine wpList_store_row rfl _ _ _ rfl _ _ rfl rfl _ _ hR9 size13R rfl HO.out ?_))
    have hbl : Below w.heap.size w (u9.setRow r (segC ({ SegM.none_ with code := 196, at_ := a, end_ := b, huffs := m.huffs } : SegM) nilS (.slice vqA vqn vqc) nilS nilS nilS)) := grown_below (grown_row (grown_of_below hI9.b none) (.inl (by have := hI9.ne; omega)) _)
    refine bodyPost_ret (results_cell_row rfl _ _ r 30 (segC ({ SegM.none_ with code := 196, at_ := a, end_ := b, huffs := m.huffs } : SegM) nilS (.slice vqA vqn vqc) nilS nilS nilS) (0, 0) _ rfl hR9.row Tryd.underlying30 rfl size13R) rfl ?_
    refine ⟨nilS, (.slice vqA vqn vqc), nilS, nilS, nilS, ?_, ?_, hbl⟩
    · rw [HPL.out]
    · rw [HPL.out]
      exact at_h (HM.out.below hbl) 196 a b rfl
  · skip
    obtain ⟨vqA, vqn, vqc, hvq⟩ : ∃ A n c, vc = .slice A n c := by obtain ⟨A, k, h9, _⟩ := HM.out.c; exact ⟨A, _, k, h9⟩
    subst hvq
    have HRG := Lib.hid (show u1.rangeAt s 5 [.int .u8 (m.kind : Nat), .int .i64 m.width, .int .i64 m.height, .slice vqA vqn vqc] from hI.S.range 5 _ (by rw [HSS.out]; rfl))
    have hth : u1.there d 5 4 := fun j hj => by
      refine ⟨?_, hI.D.frozen _⟩
      rw [hI.D.cell]
      rcases (show j = 0 ∨ j = 1 ∨ j = 2 ∨ j = 3 by omega) with rfl | rfl | rfl | rfl <;> rfl
    have HTH := Lib.hid hth; clear hth
    have HON := Lib.hid (show (#[.int .u8 (m.kind : Nat), .int .i64 m.width, .int .i64 m.height, .slice vqA vqn vqc] : Array Value).all (·.oneCell') = true from all_oneCell_toArray (by intro v hv; simp at hv; rcases hv with rfl | rfl | rfl | rfl <;> rfl))
    go_upto_region 9 with (first | (refine wpList_load_mid rfl _ _ rfl s 5 rfl _ _ HRG.out Tryd.underlying26 rfl sz4P ?_) | (refine wpList_store_mid rfl _ _ _ rfl d 5 #[.int .u8 (m.kind : Nat), .int .i64 m.width, .int .i64 m.height, .slice vqA vqn vqc] rfl rfl HTH.out sz4P HON.out ?_))
    rw [setCells4]
    have hI7 : TwI w ((((u1.setCell ⟨d, 5, none⟩ (.int .u8 (m.kind : Nat))).setCell ⟨d, 6, none⟩ (.int .i64 m.width)).setCell ⟨d, 7, none⟩ (.int .i64 m.height)).setCell ⟨d, 8, none⟩ (.slice vqA vqn vqc)) s r d ss #[.int .u8 0, .int .i64 0, .int .i64 0, .slice none 0 0, .slice none 0 0, .int .u8 0, .int .i64 0, .int .i64 0, .slice none 0 0, .slice none 0 0, .slice none 0 0, .int .i64 0, .string (ByteArray.mk #[])] (segC ({ SegM.none_ with code := 192, at_ := a, end_ := b, kind := m.kind, width := m.width, height := m.height } : SegM) nilS nilS (.slice vqA vqn vqc) nilS nilS) := (((hI.setD 5 (.int .u8 (m.kind : Nat))).setD 6 (.int .i64 m.width)).setD 7 (.int .i64 m.height)).setD 8 (.slice vqA vqn vqc)
    clear hI c0 HRG HTH
    generalize ((((u1.setCell ⟨d, 5, none⟩ (.int .u8 (m.kind : Nat))).setCell ⟨d, 6, none⟩ (.int .i64 m.width)).setCell ⟨d, 7, none⟩ (.int .i64 m.height)).setCell ⟨d, 8, none⟩ (.slice vqA vqn vqc)) = u7 at hI7 ⊢
    have c0 : u7.cell? ⟨s, 0, none⟩ = some (.int .u8 192) := (hI7.cell 0).1.trans (by rw [HSS.out]; show some (Value.int .u8 (m.code : Nat)) = _; rw [HCD.out]; rfl)
    have c5 : u7.cell? ⟨d, 5, none⟩ = some (.int .u8 (m.kind : Nat)) := (hI7.cell 5).2.1.trans rfl
    have f5 : u7.frozen? ⟨d, 5, none⟩ = false := (hI7.cell 5).2.2
    go_upto_region 20 with fail
    have hI8 : TwI w (u7.setCell ⟨d, 5, none⟩ (.int .u8 192)) s r d ss #[.int .u8 0, .int .i64 0, .int .i64 0, .slice none 0 0, .slice none 0 0, .int .u8 0, .int .i64 0, .int .i64 0, .slice none 0 0, .slice none 0 0, .slice none 0 0, .int .i64 0, .string (ByteArray.mk #[])] (segC ({ SegM.none_ with code := 192, at_ := a, end_ := b, kind := 192, width := m.width, height := m.height, comps := m.comps } : SegM) nilS nilS (.slice vqA vqn vqc) nilS nilS) := hI7.setD 5 (.int .u8 192)
    have HM9 := Lib.hid (HM.out.below hI8.b)
    clear hI7 c0 c5 f5
    generalize u7.setCell ⟨d, 5, none⟩ (.int .u8 192) = u9 at hI8 HM9 ⊢
    have hpl : plainM m a b = ({ SegM.none_ with code := 192, at_ := a, end_ := b, kind := 192, width := m.width, height := m.height, comps := m.comps } : SegM) := plain_f a b 192 HCD.out (by omega)
    have HPL := Lib.hid hpl; clear hpl
    have hat9 : SegAt u9 ({ SegM.none_ with code := 192, at_ := a, end_ := b, kind := 192, width := m.width, height := m.height, comps := m.comps } : SegM) nilS nilS (.slice vqA vqn vqc) nilS nilS := at_c HM9.out 192 192 a b m.width m.height
    have hI9 : TwI w u9 s r d ss #[.int .u8 0, .int .i64 0, .int .i64 0, .slice none 0 0, .slice none 0 0, .int .u8 0, .int .i64 0, .int .i64 0, .slice none 0 0, .slice none 0 0, .slice none 0 0, .int .i64 0, .string (ByteArray.mk #[])] (segC ({ SegM.none_ with code := 192, at_ := a, end_ := b, kind := 192, width := m.width, height := m.height, comps := m.comps } : SegM) nilS nilS (.slice vqA vqn vqc) nilS nilS) := hI8
    have HO := Lib.hid (at_one hat9); clear hat9 hI8
    have hD9 := hI9.D
    have hR9 := hI9.R
    go_wp2_with (first | (refine wpList_load_row rfl _ _ rfl d rfl _ _ _ _ hD9 Tryd.underlying30 rfl size13R ?_) | (refine wpList_store_row rfl _ _ _ rfl _ _ rfl rfl _ _ hR9 size13R rfl HO.out ?_))
    have hbl : Below w.heap.size w (u9.setRow r (segC ({ SegM.none_ with code := 192, at_ := a, end_ := b, kind := 192, width := m.width, height := m.height, comps := m.comps } : SegM) nilS nilS (.slice vqA vqn vqc) nilS nilS)) := grown_below (grown_row (grown_of_below hI9.b none) (.inl (by have := hI9.ne; omega)) _)
    refine bodyPost_ret (results_cell_row rfl _ _ r 30 (segC ({ SegM.none_ with code := 192, at_ := a, end_ := b, kind := 192, width := m.width, height := m.height, comps := m.comps } : SegM) nilS nilS (.slice vqA vqn vqc) nilS nilS) (0, 0) _ rfl hR9.row Tryd.underlying30 rfl size13R) rfl ?_
    refine ⟨nilS, nilS, (.slice vqA vqn vqc), nilS, nilS, ?_, ?_, hbl⟩
    · rw [HPL.out]
    · rw [HPL.out]
      exact at_c (HM.out.below hbl) 192 192 a b m.width m.height
  · skip
    obtain ⟨vqA, vqn, vqc, hvq⟩ : ∃ A n c, vc = .slice A n c := by obtain ⟨A, k, h9, _⟩ := HM.out.c; exact ⟨A, _, k, h9⟩
    subst hvq
    have HRG := Lib.hid (show u1.rangeAt s 5 [.int .u8 (m.kind : Nat), .int .i64 m.width, .int .i64 m.height, .slice vqA vqn vqc] from hI.S.range 5 _ (by rw [HSS.out]; rfl))
    have hth : u1.there d 5 4 := fun j hj => by
      refine ⟨?_, hI.D.frozen _⟩
      rw [hI.D.cell]
      rcases (show j = 0 ∨ j = 1 ∨ j = 2 ∨ j = 3 by omega) with rfl | rfl | rfl | rfl <;> rfl
    have HTH := Lib.hid hth; clear hth
    have HON := Lib.hid (show (#[.int .u8 (m.kind : Nat), .int .i64 m.width, .int .i64 m.height, .slice vqA vqn vqc] : Array Value).all (·.oneCell') = true from all_oneCell_toArray (by intro v hv; simp at hv; rcases hv with rfl | rfl | rfl | rfl <;> rfl))
    go_upto_region 9 with (first | (refine wpList_load_mid rfl _ _ rfl s 5 rfl _ _ HRG.out Tryd.underlying26 rfl sz4P ?_) | (refine wpList_store_mid rfl _ _ _ rfl d 5 #[.int .u8 (m.kind : Nat), .int .i64 m.width, .int .i64 m.height, .slice vqA vqn vqc] rfl rfl HTH.out sz4P HON.out ?_))
    rw [setCells4]
    have hI7 : TwI w ((((u1.setCell ⟨d, 5, none⟩ (.int .u8 (m.kind : Nat))).setCell ⟨d, 6, none⟩ (.int .i64 m.width)).setCell ⟨d, 7, none⟩ (.int .i64 m.height)).setCell ⟨d, 8, none⟩ (.slice vqA vqn vqc)) s r d ss #[.int .u8 0, .int .i64 0, .int .i64 0, .slice none 0 0, .slice none 0 0, .int .u8 0, .int .i64 0, .int .i64 0, .slice none 0 0, .slice none 0 0, .slice none 0 0, .int .i64 0, .string (ByteArray.mk #[])] (segC ({ SegM.none_ with code := 193, at_ := a, end_ := b, kind := m.kind, width := m.width, height := m.height } : SegM) nilS nilS (.slice vqA vqn vqc) nilS nilS) := (((hI.setD 5 (.int .u8 (m.kind : Nat))).setD 6 (.int .i64 m.width)).setD 7 (.int .i64 m.height)).setD 8 (.slice vqA vqn vqc)
    clear hI c0 HRG HTH
    generalize ((((u1.setCell ⟨d, 5, none⟩ (.int .u8 (m.kind : Nat))).setCell ⟨d, 6, none⟩ (.int .i64 m.width)).setCell ⟨d, 7, none⟩ (.int .i64 m.height)).setCell ⟨d, 8, none⟩ (.slice vqA vqn vqc)) = u7 at hI7 ⊢
    have c0 : u7.cell? ⟨s, 0, none⟩ = some (.int .u8 193) := (hI7.cell 0).1.trans (by rw [HSS.out]; show some (Value.int .u8 (m.code : Nat)) = _; rw [HCD.out]; rfl)
    have c5 : u7.cell? ⟨d, 5, none⟩ = some (.int .u8 (m.kind : Nat)) := (hI7.cell 5).2.1.trans rfl
    have f5 : u7.frozen? ⟨d, 5, none⟩ = false := (hI7.cell 5).2.2
    go_upto_region 20 with fail
    have hI8 : TwI w (u7.setCell ⟨d, 5, none⟩ (.int .u8 193)) s r d ss #[.int .u8 0, .int .i64 0, .int .i64 0, .slice none 0 0, .slice none 0 0, .int .u8 0, .int .i64 0, .int .i64 0, .slice none 0 0, .slice none 0 0, .slice none 0 0, .int .i64 0, .string (ByteArray.mk #[])] (segC ({ SegM.none_ with code := 193, at_ := a, end_ := b, kind := 193, width := m.width, height := m.height, comps := m.comps } : SegM) nilS nilS (.slice vqA vqn vqc) nilS nilS) := hI7.setD 5 (.int .u8 193)
    have HM9 := Lib.hid (HM.out.below hI8.b)
    clear hI7 c0 c5 f5
    generalize u7.setCell ⟨d, 5, none⟩ (.int .u8 193) = u9 at hI8 HM9 ⊢
    have hpl : plainM m a b = ({ SegM.none_ with code := 193, at_ := a, end_ := b, kind := 193, width := m.width, height := m.height, comps := m.comps } : SegM) := plain_f a b 193 HCD.out (by omega)
    have HPL := Lib.hid hpl; clear hpl
    have hat9 : SegAt u9 ({ SegM.none_ with code := 193, at_ := a, end_ := b, kind := 193, width := m.width, height := m.height, comps := m.comps } : SegM) nilS nilS (.slice vqA vqn vqc) nilS nilS := at_c HM9.out 193 193 a b m.width m.height
    have hI9 : TwI w u9 s r d ss #[.int .u8 0, .int .i64 0, .int .i64 0, .slice none 0 0, .slice none 0 0, .int .u8 0, .int .i64 0, .int .i64 0, .slice none 0 0, .slice none 0 0, .slice none 0 0, .int .i64 0, .string (ByteArray.mk #[])] (segC ({ SegM.none_ with code := 193, at_ := a, end_ := b, kind := 193, width := m.width, height := m.height, comps := m.comps } : SegM) nilS nilS (.slice vqA vqn vqc) nilS nilS) := hI8
    have HO := Lib.hid (at_one hat9); clear hat9 hI8
    have hD9 := hI9.D
    have hR9 := hI9.R
    go_wp2_with (first | (refine wpList_load_row rfl _ _ rfl d rfl _ _ _ _ hD9 Tryd.underlying30 rfl size13R ?_) | (refine wpList_store_row rfl _ _ _ rfl _ _ rfl rfl _ _ hR9 size13R rfl HO.out ?_))
    have hbl : Below w.heap.size w (u9.setRow r (segC ({ SegM.none_ with code := 193, at_ := a, end_ := b, kind := 193, width := m.width, height := m.height, comps := m.comps } : SegM) nilS nilS (.slice vqA vqn vqc) nilS nilS)) := grown_below (grown_row (grown_of_below hI9.b none) (.inl (by have := hI9.ne; omega)) _)
    refine bodyPost_ret (results_cell_row rfl _ _ r 30 (segC ({ SegM.none_ with code := 193, at_ := a, end_ := b, kind := 193, width := m.width, height := m.height, comps := m.comps } : SegM) nilS nilS (.slice vqA vqn vqc) nilS nilS) (0, 0) _ rfl hR9.row Tryd.underlying30 rfl size13R) rfl ?_
    refine ⟨nilS, nilS, (.slice vqA vqn vqc), nilS, nilS, ?_, ?_, hbl⟩
    · rw [HPL.out]
    · rw [HPL.out]
      exact at_c (HM.out.below hbl) 193 193 a b m.width m.height
  · skip
    have hc11 : ss[11]? = some (.int .i64 m.restart) := by rw [HSS.out]; rfl
    have d11 : u1.cell? ⟨s, 11, none⟩ = some (.int .i64 m.restart) := (hI.cell 11).1.trans hc11
    have e11 : u1.cell? ⟨d, 11, none⟩ = some (.int .i64 0) := (hI.cell 11).2.1.trans rfl
    have f11 : u1.frozen? ⟨d, 11, none⟩ = false := (hI.cell 11).2.2
    go_upto_region 20 with fail
    have hI8 := hI.setD 11 (.int .i64 m.restart)
    have HM9 := Lib.hid (HM.out.below hI8.b)
    clear hI hc11 d11 e11 f11 c0
    generalize u1.setCell ⟨d, 11, none⟩ (.int .i64 m.restart) = u9 at hI8 HM9 ⊢
    have hpl : plainM m a b = ({ SegM.none_ with code := 221, at_ := a, end_ := b, restart := m.restart } : SegM) := plain_r a b HCD.out
    have HPL := Lib.hid hpl; clear hpl
    have hat9 : SegAt u9 ({ SegM.none_ with code := 221, at_ := a, end_ := b, restart := m.restart } : SegM) nilS nilS nilS nilS nilS := at_0 221 a b m.restart []
    have hI9 : TwI w u9 s r d ss #[.int .u8 0, .int .i64 0, .int .i64 0, .slice none 0 0, .slice none 0 0, .int .u8 0, .int .i64 0, .int .i64 0, .slice none 0 0, .slice none 0 0, .slice none 0 0, .int .i64 0, .string (ByteArray.mk #[])] (segC ({ SegM.none_ with code := 221, at_ := a, end_ := b, restart := m.restart } : SegM) nilS nilS nilS nilS nilS) := hI8
    have HO := Lib.hid (at_one hat9); clear hat9 hI8
    have hD9 := hI9.D
    have hR9 := hI9.R
    go_wp2_with (first | (refine wpList_load_row rfl _ _ rfl d rfl _ _ _ _ hD9 Tryd.underlying30 rfl size13R ?_) | (refine wpList_store_row rfl _ _ _ rfl _ _ rfl rfl _ _ hR9 size13R rfl HO.out ?_))
    have hbl : Below w.heap.size w (u9.setRow r (segC ({ SegM.none_ with code := 221, at_ := a, end_ := b, restart := m.restart } : SegM) nilS nilS nilS nilS nilS)) := grown_below (grown_row (grown_of_below hI9.b none) (.inl (by have := hI9.ne; omega)) _)
    refine bodyPost_ret (results_cell_row rfl _ _ r 30 (segC ({ SegM.none_ with code := 221, at_ := a, end_ := b, restart := m.restart } : SegM) nilS nilS nilS nilS nilS) (0, 0) _ rfl hR9.row Tryd.underlying30 rfl size13R) rfl ?_
    refine ⟨nilS, nilS, nilS, nilS, nilS, ?_, ?_, hbl⟩
    · rw [HPL.out]
    · rw [HPL.out]
      exact at_0 221 a b m.restart []
  · skip
    obtain ⟨vqA, vqn, vqc, hvq⟩ : ∃ A n c, vi = .slice A n c := by obtain ⟨A, k, h9, _⟩ := HM.out.i; exact ⟨A, _, k, h9⟩
    subst hvq
    obtain ⟨Ap, cp, hvp, hp⟩ := HM.out.p
    subst hvp
    obtain ⟨hpl, hpat⟩ := rows_at (by decide) (fun p _ => (rfl : (partC p).length = 3)) hp
    have HPA := Lib.hid hpat; clear hpat hp hpl
    obtain ⟨n, hn⟩ : ∃ n, m.parts.length = n := ⟨_, rfl⟩
    rw [hn] at HPA hfp
    have s9 : ss[9]? = some (.slice Ap n cp) := by rw [HSS.out, ← hn]; rfl
    have HN := Lib.hid hn; clear hn
    have hc10 : ss[10]? = some (.slice vqA vqn vqc) := by rw [HSS.out]; rfl
    have d10 : u1.cell? ⟨s, 10, none⟩ = some (.slice vqA vqn vqc) := (hI.cell 10).1.trans hc10
    have e10 : u1.cell? ⟨d, 10, none⟩ = some nilS := (hI.cell 10).2.1.trans rfl
    have f10 : u1.frozen? ⟨d, 10, none⟩ = false := (hI.cell 10).2.2
    have HS9 := Lib.hid s9; clear s9
    go_upto_region 15 with fail
    have hI1 : TwI w (u1.setCell ⟨d, 10, none⟩ (.slice vqA vqn vqc)) s r d ss #[.int .u8 0, .int .i64 0, .int .i64 0, .slice none 0 0, .slice none 0 0, .int .u8 0, .int .i64 0, .int .i64 0, .slice none 0 0, .slice none 0 0, .slice none 0 0, .int .i64 0, .string (ByteArray.mk #[])] (segC (blank 218 a b) nilS nilS nilS nilS (.slice vqA vqn vqc)) := hI.setD 10 (.slice vqA vqn vqc)
    clear hI hc10 d10 e10 f10 c0
    generalize u1.setCell ⟨d, 10, none⟩ (.slice vqA vqn vqc) = u2 at hI1 ⊢
    obtain ⟨ip, ip1, ip2, ip3, ip4⟩ := info_parts infoP3
    obtain ⟨zp, hzp⟩ : ∃ z, z = Value.agg #[.int .i64 0, .int .u8 0, .int .u8 0] := ⟨_, rfl⟩
    rw [← hzp] at ip2
    have ip5 : zp.cells.size = 3 := by rw [hzp]; rfl
    have IP := Lib.hid (And.intro ip1 (And.intro ip2 (And.intro ip3 (And.intro ip4 ip5)))); clear ip1 ip2 ip3 ip4 ip5 hzp
    have hstart : TwI w u2 s r d ss #[.int .u8 0, .int .i64 0, .int .i64 0, .slice none 0 0, .slice none 0 0, .int .u8 0, .int .i64 0, .int .i64 0, .slice none 0 0, .slice none 0 0, .slice none 0 0, .int .i64 0, .string (ByteArray.mk #[])] (segC (blank 218 a b) nilS nilS nilS nilS (.slice vqA vqn vqc)) ∧ u2.ownsRow (d + 1) 69 3 nilS 0 [] := ⟨hI1, World.ownsRow_nil _ _ _ _⟩
    clear hI1
    go_loopw [8] (fun i u => ∃ k : Nat, k ≤ n ∧ i = .int .i64 k ∧ ∃ v, TwI w u s r d ss #[.int .u8 0, .int .i64 0, .int .i64 0, .slice none 0 0, .slice none 0 0, .int .u8 0, .int .i64 0, .int .i64 0, .slice none 0 0, .slice none 0 0, .slice none 0 0, .int .i64 0, .string (ByteArray.mk #[])] (segC (blank 218 a b) nilS nilS nilS v (.slice vqA vqn vqc)) ∧ u.ownsRow (d + 1) 69 3 v k (((m.parts.take k).map zeroP).flatMap partC)) (fun i _ => n - (intOf i).toNat)
    case atStart => exact ⟨0, by omega, rfl, nilS, hstart.1, hstart.2⟩
    clear hstart
    case round =>
      obtain ⟨k, hk, rfl, v, hI, hown⟩ := hrel
      have d9 : wr.cell? ⟨s, 9, none⟩ = some (.slice Ap n cp) := (hI.cell 9).1.trans HS9.out
      have HX := Lib.hid hown; clear hown
      by_cases hlt : k < n
      · obtain ⟨ba, oa, rfl, hat⟩ := HPA.out (by omega)
        obtain ⟨p, hpk⟩ : ∃ p, m.parts[k]? = some p := ⟨m.parts[k]'(by rw [HN.out]; exact hlt), List.getElem?_eq_getElem _⟩
        have HRE := Lib.hid (range_below (hat k p hpk) hI.b)
        have hnext : m.parts.take (k + 1) = m.parts.take k ++ [p] := take_next hpk
        have HNX := Lib.hid hnext; clear hnext hpk hat
        have HZ3 := Lib.hid (And.intro (show (Tryd.prog.info? 69).map (·.size) = some (partC p).length by exact sz3Q) (all_oneCell_toArray (partC_one p)))
        obtain ⟨pc, hpc⟩ : ∃ x, partC p = x := ⟨_, rfl⟩
        rw [hpc] at HRE HZ3
        have hpz : (#[.int .i64 0, .int .u8 0, .int .u8 0] : Array Value).size = pc.toArray.size := by rw [← hpc]; rfl
        have HPC := Lib.hid (And.intro hpc hpz); clear hpc hpz
        go_upto_region 18 with (first | (refine wpList_load_mid rfl _ _ rfl ba (oa + k * 3) rfl _ _ HRE.out Tryd.underlying69 rfl HZ3.out.1 ?_) | (refine wpList_store_row rfl _ _ _ rfl _ _ rfl rfl _ _ (Blk.new wr _ _) (by rw [List.size_toArray]; exact HZ3.out.1) HPC.out.2 HZ3.out.2 ?_))
        have hQ2 : Blk ((wr.alloc (.cells #[.int .i64 0, .int .u8 0, .int .u8 0] 69)).setRow wr.heap.size pc.toArray) wr.heap.size 69 pc.toArray := (Blk.new wr _ _).row
        have hb2 : Below wr.heap.size wr ((wr.alloc (.cells #[.int .i64 0, .int .u8 0, .int .u8 0] 69)).setRow wr.heap.size pc.toArray) := grown_below (grown_row (grown_alloc (grown_of_below (Below.refl _ _) none) _) (.inl (Nat.le_refl _)) _)
        generalize ((wr.alloc (.cells #[.int .i64 0, .int .u8 0, .int .u8 0] 69)).setRow wr.heap.size pc.toArray) = w2 at hQ2 hb2 ⊢
        have hI2 := hI.kept hb2
        have hX2 := own_kept HX.out hb2
        have hlb : ∀ g, v.ownBlock = some g → g < wr.heap.size := fun g hg => (HX.out.lt g hg).2
        have hbig := hI.big
        generalize wr.heap.size = q at hQ2 hbig hlb ⊢
        have HY := Lib.hid (And.intro hX2 hlb); clear hX2 hlb hI hb2 d9 HRE HX
        have x0 : w2.cell? ⟨q, 0, none⟩ = some (.int .i64 p.comp) := by rw [hQ2.cell, ← HPC.out.1]; rfl
        have y0 : w2.frozen? ⟨q, 0, none⟩ = false := hQ2.frozen _
        go_upto_region 19 with fail
        have hQ4 : Blk (w2.setCell ⟨q, 0, none⟩ (.int .i64 0)) q 69 (partC (zeroP p)).toArray := by
          have h9 := hQ2.set 0 (.int .i64 0)
          rw [← HPC.out.1] at h9
          exact h9
        have hI4 := hI2.far (p := ⟨q, 0, none⟩) (show d < q by omega) (.int .i64 0)
        have hX4 : (w2.setCell ⟨q, 0, none⟩ (.int .i64 0)).ownsRow (d + 1) 69 3 v k (((m.parts.take k).map zeroP).flatMap partC) := own_keep HY.out.1 fun g hg => Below.heap_setCell _ _ _ _ (by have := HY.out.2 g hg; show g ≠ q; omega)
        have HX4 := Lib.hid hX4; clear hX4 x0 y0 hQ2 hI2 HY
        generalize w2.setCell ⟨q, 0, none⟩ (.int .i64 0) = w4 at hQ4 hI4 HX4 ⊢
        have hI5 := hI4.kept (show Below w4.heap.size w4 (w4.alloc (.cells (partC (zeroP p)).toArray 69)) from (Below.refl _ _).alloc (Nat.le_refl _) _)
        have hn5 := Blk.new w4 69 (partC (zeroP p)).toArray
        have HX5 := Lib.hid (own_kept HX4.out (show Below w4.heap.size w4 (w4.alloc (.cells (partC (zeroP p)).toArray 69)) from (Below.refl _ _).alloc (Nat.le_refl _) _))
        have hr5 : Rows 3 (w4.alloc (.cells (partC (zeroP p)).toArray 69)) (some ⟨w4.heap.size, 0, none⟩) 1 (partC (zeroP p)) := ⟨rfl, fun _ => ⟨_, 0, rfl, fun j hj => by rw [hn5.cell, Nat.zero_add]; simp⟩⟩
        have HR5 := Lib.hid hr5; clear hr5
        have c9 : w4.cell? ⟨d, 9, none⟩ = some v := (hI4.cell 9).2.1.trans rfl
        have hbig5 := hI5.big
        have hk5 : k ≤ 16777216 := by omega
        have HQ4 := Lib.hid hQ4; clear hQ4
        have HI5 := Lib.hid hI5; clear hI5
        clear hn5
        obtain ⟨pz, hpz⟩ : ∃ x, partC (zeroP p) = x := ⟨_, rfl⟩
        have hpz1 : (Tryd.prog.info? 69).map (·.size) = some pz.toArray.size := by rw [← hpz]; exact sz3Q
        have hpz2 : ∀ u ∈ pz, u.oneCell' = true := by rw [← hpz]; exact partC_one _
        rw [hpz] at HQ4 HI5 HX5 HR5 hbig5
        have HPZ := Lib.hid (And.intro hpz (And.intro hpz1 hpz2)); clear hpz hpz1 hpz2
        go_upto_region 16 with (first | (refine wpList_load_row rfl _ _ rfl q rfl _ _ _ _ HQ4.out Tryd.underlying69 rfl HPZ.out.2.1 ?_) | (refine wpList_buildOne rfl 27 69 _ rfl _ rfl ip zp 3 Tryd.underlying27 IP.out.1 IP.out.2.1 IP.out.2.2.1 (by rw [← HPZ.out.1]; rfl) (by decide) (by decide) ?_) | (at_builtin; refine wpList_append_rows rfl (.tmp 76) (.tmp 78) 27 rfl (d + 1) 69 ip zp 3 16 Tryd.underlying27 IP.out.1 IP.out.2.1 IP.out.2.2.1 IP.out.2.2.2.1 IP.out.2.2.2.2 (by decide) v k (((m.parts.take k).map zeroP).flatMap partC) rfl HX5.out (some ⟨w4.heap.size, 0, none⟩) 1 1 pz rfl HR5.out HPZ.out.2.2 (by unfold maxLen; omega) (by omega) hbig5 ?_; intro v' w6 hown6 hgr6 hat6; have hI6 := HI5.out.grown hgr6 (fun g e => by have := (HX5.out.lt g e).1; omega); have e9 : w6.cell? ⟨d, 9, none⟩ = some v := (hI6.cell 9).2.1.trans rfl; have f9 : w6.frozen? ⟨d, 9, none⟩ = false := (hI6.cell 9).2.2; obtain ⟨A6, k6, rfl⟩ := own_slice hown6))
        have hI7 : TwI w (w6.setCell ⟨d, 9, none⟩ (.slice A6 (k + 1) k6)) s r d ss #[.int .u8 0, .int .i64 0, .int .i64 0, .slice none 0 0, .slice none 0 0, .int .u8 0, .int .i64 0, .int .i64 0, .slice none 0 0, .slice none 0 0, .slice none 0 0, .int .i64 0, .string (ByteArray.mk #[])] (segC (blank 218 a b) nilS nilS nilS (.slice A6 (k + 1) k6) (.slice vqA vqn vqc)) := hI6.setD 9 _
        have hown7 : (w6.setCell ⟨d, 9, none⟩ (.slice A6 (k + 1) k6)).ownsRow (d + 1) 69 3 (.slice A6 (k + 1) k6) (k + 1) (((m.parts.take (k + 1)).map zeroP).flatMap partC) := by
          have h9 := own_setD hown6 (Nat.lt_succ_self d) 9 (.slice A6 (k + 1) k6)
          rw [HNX.out, List.map_append, List.flatMap_append, show ([p].map zeroP).flatMap partC = partC (zeroP p) by simp, HPZ.out.1]
          exact h9
        generalize Value.slice A6 (k + 1) k6 = v7 at hI7 hown7 ⊢
        generalize w6.setCell ⟨d, 9, none⟩ v7 = w7 at hI7 hown7 ⊢
        clear hI6 hown6 hgr6 hat6 e9 f9 c9 HI5 HX5 HR5 hbig5 HX4 hI4 HQ4
        have HF := Lib.hid (And.intro hI7 hown7); clear hI7 hown7
        go_wp2_with fail
        go_roundw
        case rel => exact ⟨k + 1, by omega, by go_num, v7, HF.out.1, HF.out.2⟩
        case measure => simp [intOf]; omega
      · obtain rfl : k = n := by omega
        have hown9 : wr.ownsRow (d + 1) 69 3 v m.parts.length ((m.parts.map zeroP).flatMap partC) := by
          have h9 := HX.out
          rw [← HN.out, List.take_length] at h9
          exact h9
        have HOWN9 := Lib.hid hown9; clear hown9 HX
        have hI8 : TwI w wr s r d ss #[.int .u8 0, .int .i64 0, .int .i64 0, .slice none 0 0, .slice none 0 0, .int .u8 0, .int .i64 0, .int .i64 0, .slice none 0 0, .slice none 0 0, .slice none 0 0, .int .i64 0, .string (ByteArray.mk #[])] (segC ({ SegM.none_ with code := 218, at_ := a, end_ := b, ids := m.ids, parts := m.parts.map fun p => { p with comp := 0 } } : SegM) nilS nilS nilS v (.slice vqA vqn vqc)) := hI
        clear hI
        have HM9 := Lib.hid (HM.out.below hI8.b)
        generalize wr = u9 at hI8 HOWN9 HM9 d9 ⊢
        have hpl : plainM m a b = ({ SegM.none_ with code := 218, at_ := a, end_ := b, ids := m.ids, parts := m.parts.map fun p => { p with comp := 0 } } : SegM) := plain_s a b HCD.out
        have HPL := Lib.hid hpl; clear hpl
        have hat9 : SegAt u9 ({ SegM.none_ with code := 218, at_ := a, end_ := b, ids := m.ids, parts := m.parts.map fun p => { p with comp := 0 } } : SegM) nilS nilS nilS v (.slice vqA vqn vqc) := at_p HM9.out 218 a b HOWN9.out
        have hI9 : TwI w u9 s r d ss #[.int .u8 0, .int .i64 0, .int .i64 0, .slice none 0 0, .slice none 0 0, .int .u8 0, .int .i64 0, .int .i64 0, .slice none 0 0, .slice none 0 0, .slice none 0 0, .int .i64 0, .string (ByteArray.mk #[])] (segC ({ SegM.none_ with code := 218, at_ := a, end_ := b, ids := m.ids, parts := m.parts.map fun p => { p with comp := 0 } } : SegM) nilS nilS nilS v (.slice vqA vqn vqc)) := hI8
        have HO := Lib.hid (at_one hat9); clear hat9 hI8
        have hD9 := hI9.D
        have hR9 := hI9.R
        go_wp2_with (first | (refine wpList_load_row rfl _ _ rfl d rfl _ _ _ _ hD9 Tryd.underlying30 rfl size13R ?_) | (refine wpList_store_row rfl _ _ _ rfl _ _ rfl rfl _ _ hR9 size13R rfl HO.out ?_))
        have hbl : Below w.heap.size w (u9.setRow r (segC ({ SegM.none_ with code := 218, at_ := a, end_ := b, ids := m.ids, parts := m.parts.map fun p => { p with comp := 0 } } : SegM) nilS nilS nilS v (.slice vqA vqn vqc))) := grown_below (grown_row (grown_of_below hI9.b none) (.inl (by have := hI9.ne; omega)) _)
        have hown10 := own_keep HOWN9.out (w' := u9.setRow r (segC (({ SegM.none_ with code := 218, at_ := a, end_ := b, ids := m.ids, parts := m.parts.map fun p => { p with comp := 0 } } : SegM)) nilS nilS nilS v (.slice vqA vqn vqc))) (fun g hg => setRow_other u9 r g _ (by have := (HOWN9.out.lt g hg).1; have := hI9.ne; omega))
        refine bodyPost_ret (results_cell_row rfl _ _ r 30 (segC ({ SegM.none_ with code := 218, at_ := a, end_ := b, ids := m.ids, parts := m.parts.map fun p => { p with comp := 0 } } : SegM) nilS nilS nilS v (.slice vqA vqn vqc)) (0, 0) _ rfl hR9.row Tryd.underlying30 rfl size13R) rfl ?_
        refine ⟨nilS, nilS, nilS, v, (.slice vqA vqn vqc), ?_, ?_, hbl⟩
        · rw [HPL.out]
        · rw [HPL.out]
          exact at_p (HM.out.below hbl) 218 a b hown10
  have p1 : ((c : Int) == 219) = false := beq_false_of_ne (by omega)
  have p2 : ((c : Int) == 196) = false := beq_false_of_ne (by omega)
  have p3 : ((c : Int) == 192) = false := beq_false_of_ne (by omega)
  have p4 : ((c : Int) == 193) = false := beq_false_of_ne (by omega)
  have p5 : ((c : Int) == 218) = false := beq_false_of_ne (by omega)
  have p6 : ((c : Int) == 221) = false := beq_false_of_ne (by omega)
  have HCN := Lib.hid hcn; clear hcn
  have hc12 : ss[12]? = some (.string (Bs m.data)) := by rw [HSS.out]; rfl
  have d12 : u1.cell? ⟨s, 12, none⟩ = some (.string (Bs m.data)) := (hI.cell 12).1.trans hc12
  have e12 : u1.cell? ⟨d, 12, none⟩ = some (.string (Bs [])) := (hI.cell 12).2.1.trans rfl
  have f12 : u1.frozen? ⟨d, 12, none⟩ = false := (hI.cell 12).2.2
  go_upto_region 20 with fail
  have hI8 := hI.setD 12 (.string (Bs m.data))
  have HM9 := Lib.hid (HM.out.below hI8.b)
  clear hI hc12 d12 e12 f12 c0
  generalize u1.setCell ⟨d, 12, none⟩ (.string (Bs m.data)) = u9 at hI8 HM9 ⊢
  have hpl : plainM m a b = ({ SegM.none_ with code := c, at_ := a, end_ := b, data := m.data } : SegM) := plain_d a b c HCD.out HCN.out
  have HPL := Lib.hid hpl; clear hpl
  have hat9 : SegAt u9 ({ SegM.none_ with code := c, at_ := a, end_ := b, data := m.data } : SegM) nilS nilS nilS nilS nilS := at_0 c a b 0 m.data
  have hI9 : TwI w u9 s r d ss #[.int .u8 0, .int .i64 0, .int .i64 0, .slice none 0 0, .slice none 0 0, .int .u8 0, .int .i64 0, .int .i64 0, .slice none 0 0, .slice none 0 0, .slice none 0 0, .int .i64 0, .string (ByteArray.mk #[])] (segC ({ SegM.none_ with code := c, at_ := a, end_ := b, data := m.data } : SegM) nilS nilS nilS nilS nilS) := hI8
  have HO := Lib.hid (at_one hat9); clear hat9 hI8
  have hD9 := hI9.D
  have hR9 := hI9.R
  go_wp2_with (first | (refine wpList_load_row rfl _ _ rfl d rfl _ _ _ _ hD9 Tryd.underlying30 rfl size13R ?_) | (refine wpList_store_row rfl _ _ _ rfl _ _ rfl rfl _ _ hR9 size13R rfl HO.out ?_))
  have hbl : Below w.heap.size w (u9.setRow r (segC ({ SegM.none_ with code := c, at_ := a, end_ := b, data := m.data } : SegM) nilS nilS nilS nilS nilS)) := grown_below (grown_row (grown_of_below hI9.b none) (.inl (by have := hI9.ne; omega)) _)
  refine bodyPost_ret (results_cell_row rfl _ _ r 30 (segC ({ SegM.none_ with code := c, at_ := a, end_ := b, data := m.data } : SegM) nilS nilS nilS nilS nilS) (0, 0) _ rfl hR9.row Tryd.underlying30 rfl size13R) rfl ?_
  refine ⟨nilS, nilS, nilS, nilS, nilS, ?_, ?_, hbl⟩
  · rw [HPL.out]
  · rw [HPL.out]
    exact at_0 c a b 0 m.data
end Go.Proofs.YtjfgfoeenajneaaDoor.Sg
