/- Segments in plain lists: what is read is a segment as it may lie in memory. Lemmas for a segment with the fields alone that its code has. -/
import Derived.Test.YtjfgfoeenajneaaGreatDoorGA1
import Derived.Test.YtjfgfoeenajneaaGreatDoorGB1
import Derived.Test.YtjfgfoeenajneaaGreatDoorGC9
import Derived.Test.YtjfgfoeenajneaaGreatDoorGC8
namespace Go.Proofs.YtjfgfoeenajneaaGreatDoor.Sg
open Go.RowKit

theorem tab_ok (w : Bool) (l : List UInt8) (h : 64 ≤ l.length) : (tabOf w l).length = 64 ∧ ∀ x ∈ tabOf w l, x < 65536 := by
  cases w
  · show (tab1 l).length = 64 ∧ ∀ x ∈ tab1 l, x < 65536
    unfold tab1
    refine ⟨by rw [List.length_map, List.length_take]; omega, fun x hx => ?_⟩
    obtain ⟨b, _, rfl⟩ := List.mem_map.1 hx
    have := b.toNat_lt
    omega
  · show (tab2 l).length = 64 ∧ ∀ x ∈ tab2 l, x < 65536
    unfold tab2
    refine ⟨by simp, fun x hx => ?_⟩
    obtain ⟨k, _, rfl⟩ := List.mem_map.1 hx
    have h1 := (l.getD (2 * k) 0).toNat_lt
    have h2 := (l.getD (2 * k + 1) 0).toNat_lt
    unfold two
    omega
theorem quants_ok : ∀ (n : Nat) (d : List UInt8) (acc l : List QuantM), quantsM n d acc = .ok l → (∀ q ∈ acc, QuantOk q) → (∀ q ∈ l, QuantOk q) ∧ l.length ≤ acc.length + n
  | 0, d, acc, l, h, ha => by
    injection h with h
    subst h
    exact ⟨ha, by omega⟩
  | n + 1, [], acc, l, h, ha => by
    injection h with h
    subst h
    exact ⟨ha, by omega⟩
  | n + 1, b :: d, acc, l, h, ha => by
    unfold quantsM at h
    split at h
    · cases h
    · rename_i h1
      split at h
      · cases h
      · rename_i h2
        split at h
        · cases h
        · have ht := tab_ok (b.toNat / 16 == 1) d (by omega)
          have hb := b.toNat_lt
          obtain ⟨h3, h4⟩ := quants_ok n _ _ _ h fun q hq => by
            rcases List.mem_append.1 hq with hq | hq
            · exact ha q hq
            · obtain rfl := List.mem_singleton.1 hq
              exact ⟨show b.toNat % 16 < 256 by omega, ht.1, ht.2⟩
          exact ⟨h3, by rw [List.length_append] at h4; simp at h4; omega⟩
theorem nat_mem {l : List UInt8} {x : Nat} (h : x ∈ l.map (·.toNat)) : x < 256 := by
  obtain ⟨b, _, rfl⟩ := List.mem_map.1 h
  exact b.toNat_lt
theorem huffs_ok (N : Nat) (hN : N ≤ 1152921504606846976) : ∀ (n : Nat) (d : List UInt8) (acc l : List HuffM), huffsM n d acc = .ok l → d.length ≤ N → (∀ q ∈ acc, HuffOk q ∧ q.vals.length ≤ N) → (∀ q ∈ l, HuffOk q ∧ q.vals.length ≤ N) ∧ l.length ≤ acc.length + n
  | 0, d, acc, l, h, _, ha => by
    injection h with h
    subst h
    exact ⟨ha, by omega⟩
  | n + 1, [], acc, l, h, _, ha => by
    injection h with h
    subst h
    exact ⟨ha, by omega⟩
  | n + 1, b :: d, acc, l, h, hd, ha => by
    have hd : d.length + 1 ≤ N := by simpa using hd
    unfold huffsM at h
    split at h
    · cases h
    · rename_i h1
      split at h
      · cases h
      · rename_i h2
        split at h
        · cases h
        · split at h
          · cases h
          · have hb := b.toNat_lt
            have hv : (((d.drop 16).take (sumM ((d.take 16).map (·.toNat)))).map (·.toNat)).length ≤ N := by
              rw [List.length_map, List.length_take, List.length_drop]; omega
            obtain ⟨h3, h4⟩ := huffs_ok N hN n _ _ _ h (by rw [List.length_drop, List.length_drop]; omega) fun q hq => by
              rcases List.mem_append.1 hq with hq | hq
              · exact ha q hq
              · obtain rfl := List.mem_singleton.1 hq
                exact ⟨⟨show b.toNat / 16 < 256 by omega, show b.toNat % 16 < 256 by omega, by show ((d.take 16).map (·.toNat)).length = 16; rw [List.length_map, List.length_take]; omega, fun x hx => nat_mem hx, fun x hx => nat_mem hx, Nat.le_trans hv hN⟩, hv⟩
            exact ⟨h3, by rw [List.length_append] at h4; simp at h4; omega⟩
theorem comps_ok : ∀ (l : List UInt8), (∀ c ∈ compsM l, c.id < 256 ∧ c.h < 256 ∧ c.v < 256 ∧ c.q < 256) ∧ (compsM l).length ≤ l.length
  | [] => ⟨fun c h => by simp [compsM] at h, by simp [compsM]⟩
  | [_] => ⟨fun c h => by simp [compsM] at h, by simp [compsM]⟩
  | [_, _] => ⟨fun c h => by simp [compsM] at h, by simp [compsM]⟩
  | a :: b :: c :: l => by
    obtain ⟨h1, h2⟩ := comps_ok l
    refine ⟨fun x hx => ?_, by simp [compsM]; omega⟩
    rcases List.mem_cons.1 hx with rfl | hx
    · have ha := a.toNat_lt
      have hb := b.toNat_lt
      have hc := c.toNat_lt
      exact ⟨ha, show b.toNat / 16 < 256 by omega, show b.toNat % 16 < 256 by omega, hc⟩
    · exact h1 x hx
theorem parts_ok : ∀ (l : List UInt8), (∀ x ∈ partsM l, x.1 < 256 ∧ x.2.comp = 0 ∧ x.2.dc < 256 ∧ x.2.ac < 256) ∧ (partsM l).length ≤ l.length
  | [] => ⟨fun c h => by simp [partsM] at h, by simp [partsM]⟩
  | [_] => ⟨fun c h => by simp [partsM] at h, by simp [partsM]⟩
  | a :: b :: l => by
    obtain ⟨h1, h2⟩ := parts_ok l
    refine ⟨fun x hx => ?_, by simp [partsM]; omega⟩
    rcases List.mem_cons.1 hx with rfl | hx
    · have ha := a.toNat_lt
      have hb := b.toNat_lt
      exact ⟨ha, rfl, show b.toNat / 16 < 256 by omega, show b.toNat % 16 < 256 by omega⟩
    · exact h1 x hx
theorem ok_none (c : Nat) (hc : c < 256) (a b : Int) : SegOk { SegM.none_ with code := c, at_ := a, end_ := b } :=
  ⟨hc, by show (0 : Nat) < 256; omega, fun q h => (by cases h), fun q h => (by cases h), fun q h => (by cases h), fun q h => (by cases h), fun q h => (by cases h), Nat.zero_le _, Nat.zero_le _, Nat.zero_le _, Nat.zero_le _, Nat.zero_le _, Nat.zero_le _, by show _ ≤ (0 : Int) ∧ (0 : Int) ≤ _; omega⟩
theorem cont_ok {c : Nat} {d : List UInt8} {s : SegM} (h : contM c d = .ok s) (hc : c < 256) (hd : d.length ≤ 16777216) : SegOk s ∧ (∀ h ∈ s.huffs, h.vals.length ≤ d.length) ∧ ∀ p ∈ s.parts, p.comp = 0 := by
  have h0 := ok_none c hc 0 0
  unfold contM at h
  by_cases c1 : c = 219
  · rw [if_pos c1] at h
    split at h
    · cases h
    · split at h
      · cases h
      · rename_i l hl
        injection h with h
        subst h
        obtain ⟨h1, h2⟩ := quants_ok _ _ _ _ hl (fun q hq => by cases hq)
        exact ⟨{ h0 with quants := h1, fewQ := by show l.length ≤ _; simp at h2; omega }, fun q h => (by cases h), fun q h => (by cases h)⟩
  rw [if_neg c1] at h
  by_cases c2 : c = 196
  · rw [if_pos c2] at h
    split at h
    · cases h
    · split at h
      · cases h
      · rename_i l hl
        injection h with h
        subst h
        obtain ⟨h1, h2⟩ := huffs_ok d.length (by omega) _ _ _ _ hl (Nat.le_refl _) (fun q hq => by cases hq)
        exact ⟨{ h0 with huffs := fun q hq => (h1 q hq).1, fewH := by show l.length ≤ _; simp at h2; omega }, fun q hq => (h1 q hq).2, fun q h => (by cases h)⟩
  rw [if_neg c2] at h
  by_cases c3 : c = 192 ∨ c = 193
  · rw [if_pos c3] at h
    split at h
    · cases h
    · split at h
      · cases h
      · split at h
        · cases h
        · injection h with h
          subst h
          obtain ⟨h1, h2⟩ := comps_ok (d.drop 6)
          rw [List.length_drop] at h2
          exact ⟨{ h0 with kind := hc, comps := h1, fewC := by show (compsM (d.drop 6)).length ≤ _; omega }, fun q h => (by cases h), fun q h => (by cases h)⟩
  rw [if_neg c3] at h
  by_cases c4 : c = 218
  · rw [if_pos c4] at h
    split at h
    · cases h
    · split at h
      · cases h
      · split at h
        · cases h
        · injection h with h
          subst h
          obtain ⟨h1, h2⟩ := parts_ok ((d.drop 1).take (2 * lead d))
          rw [List.length_take, List.length_drop] at h2
          refine ⟨{ h0 with parts := fun p hp => ?_, ids := fun x hx => ?_, fewP := by show (List.map _ _).length ≤ _; rw [List.length_map]; omega, fewI := by show (List.map _ _).length ≤ _; rw [List.length_map]; omega }, fun q h => (by cases h), fun p hp => ?_⟩
          · obtain ⟨x, hx, rfl⟩ := List.mem_map.1 hp
            exact ⟨(h1 x hx).2.2.1, (h1 x hx).2.2.2⟩
          · obtain ⟨y, hy, rfl⟩ := List.mem_map.1 hx
            exact (h1 y hy).1
          · obtain ⟨x, hx, rfl⟩ := List.mem_map.1 hp
            exact (h1 x hx).2.1
  rw [if_neg c4] at h
  by_cases c5 : c = 221
  · rw [if_pos c5] at h
    split at h
    · cases h
    · injection h with h
      subst h
      have h1 := (d.getD 0 0).toNat_lt
      have h2 := (d.getD 1 0).toNat_lt
      exact ⟨{ h0 with rs := by show _ ≤ ((two (d.getD 0 0) (d.getD 1 0) : Nat) : Int) ∧ ((two (d.getD 0 0) (d.getD 1 0) : Nat) : Int) ≤ _; unfold two; omega }, fun q h => (by cases h), fun q h => (by cases h)⟩
  · rw [if_neg c5] at h
    injection h with h
    subst h
    exact ⟨{ h0 with fewD := hd }, fun q h => (by cases h), fun q h => (by cases h)⟩
theorem ok_at {s : SegM} (h : SegOk s) (a b : Int) : SegOk { s with at_ := a, end_ := b } := ⟨h.code, h.kind, h.quants, h.huffs, h.comps, h.parts, h.ids, h.fewQ, h.fewH, h.fewC, h.fewP, h.fewI, h.fewD, h.rs⟩
theorem read_ok {f : List UInt8} {p : Int} {s : SegM} (h : readM f p = .seg s) (hf : f.length ≤ 16777216) : SegOk s ∧ (∀ h ∈ s.huffs, h.vals.length ≤ f.length) ∧ ∀ p ∈ s.parts, p.comp = 0 := by
  obtain ⟨n, c, L, r, rfl, h2, h3, h4, h5, h6, h7, h8, h9, rfl⟩ := readM_seg h
  have hc : c < 256 := by rw [← h5]; exact (f.getD (n + 1) 0).toNat_lt
  have hl : ((f.drop (n + 4)).take (L - 2)).length ≤ f.length := by rw [List.length_take, List.length_drop]; omega
  obtain ⟨k1, k2, k3⟩ := cont_ok h9 hc (by omega)
  exact ⟨ok_at k1 _ _, fun q hq => Nat.le_trans (k2 q hq) hl, k3⟩
theorem ok_wf {m : SegM} (h : SegOk m) : m.wf :=
  ⟨h.code, h.quants, fun q hq => ⟨(h.huffs q hq).cls, (h.huffs q hq).id, (h.huffs q hq).len, (h.huffs q hq).cnt, (h.huffs q hq).vals⟩, h.comps, h.parts, h.ids⟩
end Go.Proofs.YtjfgfoeenajneaaGreatDoor.Sg
namespace Go.Proofs.YtjfgfoeenajneaaGreatDoor.Sg
open Go.RowKit

theorem SegAt.keep {u u' : World} {m : SegM} {vq vh vc vp vi : Value} (h : SegAt u m vq vh vc vp vi) (hk : ∀ p v, u.cell? p = some v → u'.cell? p = some v) : SegAt u' m vq vh vc vp vi := by
  have hr : ∀ {s : Nat} {A : Option Addr} {n : Nat} {xs : List Value}, Rows s u A n xs → Rows s u' A n xs := fun {s A n xs} h => by
    refine ⟨h.1, fun hn => ?_⟩
    obtain ⟨b, o, hA, hc⟩ := h.2 hn
    refine ⟨b, o, hA, fun j hj => ?_⟩
    have hj' : j < xs.length := by rw [h.1]; exact hj
    have := hc j hj
    rw [List.getElem?_eq_getElem hj'] at this ⊢
    exact hk _ _ this
  obtain ⟨⟨a1, a2, a3, a4⟩, ⟨b1, b2, b3, b4, b5, b6, b7⟩, ⟨c1, c2, c3, c4, c5⟩, ⟨d1, d2, d3, d4⟩, ⟨e1, e2, e3, e4⟩⟩ := h
  exact ⟨⟨a1, a2, a3, hr a4⟩, ⟨b1, b2, b3, b4, b5, hr b6, fun p hp => (by
    obtain ⟨A, c, h1, h2, h3⟩ := b7 p hp
    exact ⟨A, c, h1, h2.keep hk, h3⟩)⟩, ⟨c1, c2, c3, hr c4, c5⟩, ⟨d1, d2, d3, hr d4⟩, ⟨e1, e2, e3, e4.keep hk⟩⟩
/-- the list of one kind, the others empty -/
theorem at_q {u : World} {m : SegM} {vq vh vc vp vi : Value} {l : List QuantM} (h : SegAt u m vq vh vc vp vi) (c : Nat) (a b : Int) (hl : l = m.quants) : SegAt u { SegM.none_ with code := c, at_ := a, end_ := b, quants := l } vq nilS nilS nilS nilS := by
  subst hl
  have h0 := nil_at u SegM.none_ rfl rfl rfl rfl rfl
  exact ⟨h.q, h0.h, h0.c, h0.p, h0.i⟩
theorem at_h {u : World} {m : SegM} {vq vh vc vp vi : Value} {l : List HuffM} (h : SegAt u m vq vh vc vp vi) (c : Nat) (a b : Int) (hl : l = m.huffs) : SegAt u { SegM.none_ with code := c, at_ := a, end_ := b, huffs := l } nilS vh nilS nilS nilS := by
  subst hl
  have h0 := nil_at u SegM.none_ rfl rfl rfl rfl rfl
  exact ⟨h0.q, h.h, h0.c, h0.p, h0.i⟩
theorem at_c {u : World} {m : SegM} {vq vh vc vp vi : Value} (h : SegAt u m vq vh vc vp vi) (c k : Nat) (a b wd ht : Int) : SegAt u { SegM.none_ with code := c, at_ := a, end_ := b, kind := k, width := wd, height := ht, comps := m.comps } nilS nilS vc nilS nilS := by
  have h0 := nil_at u SegM.none_ rfl rfl rfl rfl rfl
  exact ⟨h0.q, h0.h, h.c, h0.p, h0.i⟩
def zeroP (p : PartM) : PartM := { p with comp := 0 }
theorem at_p {u : World} {m : SegM} {vq vh vc vp vi v : Value} {base : Nat} (h : SegAt u m vq vh vc vp vi) (c : Nat) (a b : Int) (hp : u.ownsRow base 92 3 v m.parts.length ((m.parts.map zeroP).flatMap partC)) : SegAt u { SegM.none_ with code := c, at_ := a, end_ := b, ids := m.ids, parts := m.parts.map fun p => { p with comp := 0 } } nilS nilS nilS v vi := by
  have h0 := nil_at u SegM.none_ rfl rfl rfl rfl rfl
  obtain ⟨A, k, rfl, r, _⟩ := own_rws hp
  have hl : (m.parts.map zeroP).length = m.parts.length := List.length_map _
  exact ⟨h0.q, h0.h, h0.c, ⟨A, k, by show _ = Value.slice A (m.parts.map zeroP).length k; rw [hl], by show Rows 3 u A (m.parts.map zeroP).length _; rw [hl]; exact r⟩, h.i⟩
theorem at_0 {u : World} (c : Nat) (a b : Int) (rs : Int) (d : List UInt8) : SegAt u { SegM.none_ with code := c, at_ := a, end_ := b, restart := rs, data := d } nilS nilS nilS nilS nilS := by
  have h0 := nil_at u SegM.none_ rfl rfl rfl rfl rfl
  exact ⟨h0.q, h0.h, h0.c, h0.p, h0.i⟩
theorem sz4P : (Tryz.prog.info? 27).map (·.size) = some 4 := by kernel_rfl
theorem sz3Q : (Tryz.prog.info? 92).map (·.size) = some 3 := by kernel_rfl
theorem setCells4 (u : World) (b : Nat) (x y z v : Value) : u.setCells b 5 [x, y, z, v] = (((u.setCell ⟨b, 5, none⟩ x).setCell ⟨b, 6, none⟩ y).setCell ⟨b, 7, none⟩ z).setCell ⟨b, 8, none⟩ v := rfl
theorem plain_q {m : SegM} (a b : Int) (h : m.code = 219) : plainM m a b = { SegM.none_ with code := 219, at_ := a, end_ := b, quants := m.quants } := by unfold plainM; simp only [h]; rfl
theorem plain_h {m : SegM} (a b : Int) (h : m.code = 196) : plainM m a b = { SegM.none_ with code := 196, at_ := a, end_ := b, huffs := m.huffs } := by unfold plainM; simp only [h]; rfl
theorem plain_f {m : SegM} (a b : Int) (c : Nat) (h : m.code = c) (hc : c = 192 ∨ c = 193) : plainM m a b = { SegM.none_ with code := c, at_ := a, end_ := b, kind := c, width := m.width, height := m.height, comps := m.comps } := by
  unfold plainM
  rw [h, if_neg (by omega), if_neg (by omega), if_pos hc]
theorem plain_s {m : SegM} (a b : Int) (h : m.code = 218) : plainM m a b = { SegM.none_ with code := 218, at_ := a, end_ := b, ids := m.ids, parts := m.parts.map fun p => { p with comp := 0 } } := by unfold plainM; simp only [h]; rfl
theorem plain_r {m : SegM} (a b : Int) (h : m.code = 221) : plainM m a b = { SegM.none_ with code := 221, at_ := a, end_ := b, restart := m.restart } := by unfold plainM; simp only [h]; rfl
theorem plain_d {m : SegM} (a b : Int) (c : Nat) (h : m.code = c) (hc : ¬ (c = 219 ∨ c = 196 ∨ c = 192 ∨ c = 193 ∨ c = 218 ∨ c = 221)) : plainM m a b = { SegM.none_ with code := c, at_ := a, end_ := b, data := m.data } := by
  unfold plainM
  rw [h, if_neg (by omega), if_neg (by omega), if_neg (by omega), if_neg (by omega), if_neg (by omega)]
/-- the end of the way: what is made is handed out -/
def PlQ (m : SegM) (a b : Int) (w : World) (e : Ending) (w' : World) : Prop := ∃ vq vh vc vp vi, e = .returned (.agg (segC (plainM m a b) vq vh vc vp vi)) ∧ SegAt w' (plainM m a b) vq vh vc vp vi ∧ Below w.heap.size w w'
theorem at_one {u : World} {m : SegM} {vq vh vc vp vi : Value} (h : SegAt u m vq vh vc vp vi) : (segC m vq vh vc vp vi).all (·.oneCell') = true := by
  obtain ⟨⟨a1, a2, rfl, _⟩, ⟨b1, b2, b3, rfl, _⟩, ⟨c1, c2, rfl, _⟩, ⟨d1, d2, rfl, _⟩, ⟨e1, e2, rfl, _⟩⟩ := h
  exact one13 _ _ _ _ _ _ rfl rfl rfl rfl rfl
theorem at_row {u : World} {m : SegM} {vq vh vc vp vi : Value} {w : World} {s r d : Nat} {ss rs ds ns : Array Value} (hI : TwI w u s r d ss rs ds) (h : SegAt w m vq vh vc vp vi) : SegAt (u.setRow r ns) m vq vh vc vp vi :=
  h.below (grown_below (grown_row (grown_of_below hI.b none) (.inl (by have := hI.ne; omega)) _))
end Go.Proofs.YtjfgfoeenajneaaGreatDoor.Sg
