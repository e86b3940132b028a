/- Segments in plain lists: what is read is a segment as it may lie in memory. SegmentAgain: what is read of any file is written as the bytes that were read. -/
import Derived.Test.YtjfgfoeenajneaaDoorGA1
import Derived.Test.YtjfgfoeenajneaaDoorGB1
import Derived.Test.YtjfgfoeenajneaaDoorG0Wi
namespace Go.Proofs.YtjfgfoeenajneaaDoor.Sg
open Go.RowKit

theorem tab_ok (w : Bool) (l : List UInt8) (h : 64 ≤ l.length) : (tabOf w l).length = 64 ∧ ∀ x ∈ tabOf w l, x < 65536 := by
  cases w
  · show (tab1 l).length = 64 ∧ ∀ x ∈ tab1 l, x < 65536
    unfold tab1
    refine ⟨by rw [List.length_map, List.length_take]; omega, fun x hx => ?_⟩
    obtain ⟨b, _, rfl⟩ := List.mem_map.1 hx
    have := b.toNat_lt
    omega
  · show (tab2 l).length = 64 ∧ ∀ x ∈ tab2 l, x < 65536
    unfold tab2
    refine ⟨by simp, fun x hx => ?_⟩
    obtain ⟨k, _, rfl⟩ := List.mem_map.1 hx
    have h1 := (l.getD (2 * k) 0).toNat_lt
    have h2 := (l.getD (2 * k + 1) 0).toNat_lt
    unfold two
    omega
theorem quants_ok : ∀ (n : Nat) (d : List UInt8) (acc l : List QuantM), quantsM n d acc = .ok l → (∀ q ∈ acc, QuantOk q) → (∀ q ∈ l, QuantOk q) ∧ l.length ≤ acc.length + n
  | 0, d, acc, l, h, ha => by
    injection h with h
    subst h
    exact ⟨ha, by omega⟩
  | n + 1, [], acc, l, h, ha => by
    injection h with h
    subst h
    exact ⟨ha, by omega⟩
  | n + 1, b :: d, acc, l, h, ha => by
    unfold quantsM at h
    split at h
    · cases h
    · rename_i h1
      split at h
      · cases h
      · rename_i h2
        split at h
        · cases h
        · have ht := tab_ok (b.toNat / 16 == 1) d (by omega)
          have hb := b.toNat_lt
          obtain ⟨h3, h4⟩ := quants_ok n _ _ _ h fun q hq => by
            rcases List.mem_append.1 hq with hq | hq
            · exact ha q hq
            · obtain rfl := List.mem_singleton.1 hq
              exact ⟨show b.toNat % 16 < 256 by omega, ht.1, ht.2⟩
          exact ⟨h3, by rw [List.length_append] at h4; simp at h4; omega⟩
theorem nat_mem {l : List UInt8} {x : Nat} (h : x ∈ l.map (·.toNat)) : x < 256 := by
  obtain ⟨b, _, rfl⟩ := List.mem_map.1 h
  exact b.toNat_lt
theorem huffs_ok (N : Nat) (hN : N ≤ 1152921504606846976) : ∀ (n : Nat) (d : List UInt8) (acc l : List HuffM), huffsM n d acc = .ok l → d.length ≤ N → (∀ q ∈ acc, HuffOk q ∧ q.vals.length ≤ N) → (∀ q ∈ l, HuffOk q ∧ q.vals.length ≤ N) ∧ l.length ≤ acc.length + n
  | 0, d, acc, l, h, _, ha => by
    injection h with h
    subst h
    exact ⟨ha, by omega⟩
  | n + 1, [], acc, l, h, _, ha => by
    injection h with h
    subst h
    exact ⟨ha, by omega⟩
  | n + 1, b :: d, acc, l, h, hd, ha => by
    have hd : d.length + 1 ≤ N := by simpa using hd
    unfold huffsM at h
    split at h
    · cases h
    · rename_i h1
      split at h
      · cases h
      · rename_i h2
        split at h
        · cases h
        · split at h
          · cases h
          · have hb := b.toNat_lt
            have hv : (((d.drop 16).take (sumM ((d.take 16).map (·.toNat)))).map (·.toNat)).length ≤ N := by
              rw [List.length_map, List.length_take, List.length_drop]; omega
            obtain ⟨h3, h4⟩ := huffs_ok N hN n _ _ _ h (by rw [List.length_drop, List.length_drop]; omega) fun q hq => by
              rcases List.mem_append.1 hq with hq | hq
              · exact ha q hq
              · obtain rfl := List.mem_singleton.1 hq
                exact ⟨⟨show b.toNat / 16 < 256 by omega, show b.toNat % 16 < 256 by omega, by show ((d.take 16).map (·.toNat)).length = 16; rw [List.length_map, List.length_take]; omega, fun x hx => nat_mem hx, fun x hx => nat_mem hx, Nat.le_trans hv hN⟩, hv⟩
            exact ⟨h3, by rw [List.length_append] at h4; simp at h4; omega⟩
theorem comps_ok : ∀ (l : List UInt8), (∀ c ∈ compsM l, c.id < 256 ∧ c.h < 256 ∧ c.v < 256 ∧ c.q < 256) ∧ (compsM l).length ≤ l.length
  | [] => ⟨fun c h => by simp [compsM] at h, by simp [compsM]⟩
  | [_] => ⟨fun c h => by simp [compsM] at h, by simp [compsM]⟩
  | [_, _] => ⟨fun c h => by simp [compsM] at h, by simp [compsM]⟩
  | a :: b :: c :: l => by
    obtain ⟨h1, h2⟩ := comps_ok l
    refine ⟨fun x hx => ?_, by simp [compsM]; omega⟩
    rcases List.mem_cons.1 hx with rfl | hx
    · have ha := a.toNat_lt
      have hb := b.toNat_lt
      have hc := c.toNat_lt
      exact ⟨ha, show b.toNat / 16 < 256 by omega, show b.toNat % 16 < 256 by omega, hc⟩
    · exact h1 x hx
theorem parts_ok : ∀ (l : List UInt8), (∀ x ∈ partsM l, x.1 < 256 ∧ x.2.comp = 0 ∧ x.2.dc < 256 ∧ x.2.ac < 256) ∧ (partsM l).length ≤ l.length
  | [] => ⟨fun c h => by simp [partsM] at h, by simp [partsM]⟩
  | [_] => ⟨fun c h => by simp [partsM] at h, by simp [partsM]⟩
  | a :: b :: l => by
    obtain ⟨h1, h2⟩ := parts_ok l
    refine ⟨fun x hx => ?_, by simp [partsM]; omega⟩
    rcases List.mem_cons.1 hx with rfl | hx
    · have ha := a.toNat_lt
      have hb := b.toNat_lt
      exact ⟨ha, rfl, show b.toNat / 16 < 256 by omega, show b.toNat % 16 < 256 by omega⟩
    · exact h1 x hx
theorem ok_none (c : Nat) (hc : c < 256) (a b : Int) : SegOk { SegM.none_ with code := c, at_ := a, end_ := b } :=
  ⟨hc, by show (0 : Nat) < 256; omega, fun q h => (by cases h), fun q h => (by cases h), fun q h => (by cases h), fun q h => (by cases h), fun q h => (by cases h), Nat.zero_le _, Nat.zero_le _, Nat.zero_le _, Nat.zero_le _, Nat.zero_le _, Nat.zero_le _, by show _ ≤ (0 : Int) ∧ (0 : Int) ≤ _; omega⟩
theorem cont_ok {c : Nat} {d : List UInt8} {s : SegM} (h : contM c d = .ok s) (hc : c < 256) (hd : d.length ≤ 16777216) : SegOk s ∧ (∀ h ∈ s.huffs, h.vals.length ≤ d.length) ∧ ∀ p ∈ s.parts, p.comp = 0 := by
  have h0 := ok_none c hc 0 0
  unfold contM at h
  by_cases c1 : c = 219
  · rw [if_pos c1] at h
    split at h
    · cases h
    · split at h
      · cases h
      · rename_i l hl
        injection h with h
        subst h
        obtain ⟨h1, h2⟩ := quants_ok _ _ _ _ hl (fun q hq => by cases hq)
        exact ⟨{ h0 with quants := h1, fewQ := by show l.length ≤ _; simp at h2; omega }, fun q h => (by cases h), fun q h => (by cases h)⟩
  rw [if_neg c1] at h
  by_cases c2 : c = 196
  · rw [if_pos c2] at h
    split at h
    · cases h
    · split at h
      · cases h
      · rename_i l hl
        injection h with h
        subst h
        obtain ⟨h1, h2⟩ := huffs_ok d.length (by omega) _ _ _ _ hl (Nat.le_refl _) (fun q hq => by cases hq)
        exact ⟨{ h0 with huffs := fun q hq => (h1 q hq).1, fewH := by show l.length ≤ _; simp at h2; omega }, fun q hq => (h1 q hq).2, fun q h => (by cases h)⟩
  rw [if_neg c2] at h
  by_cases c3 : c = 192 ∨ c = 193
  · rw [if_pos c3] at h
    split at h
    · cases h
    · split at h
      · cases h
      · split at h
        · cases h
        · injection h with h
          subst h
          obtain ⟨h1, h2⟩ := comps_ok (d.drop 6)
          rw [List.length_drop] at h2
          exact ⟨{ h0 with kind := hc, comps := h1, fewC := by show (compsM (d.drop 6)).length ≤ _; omega }, fun q h => (by cases h), fun q h => (by cases h)⟩
  rw [if_neg c3] at h
  by_cases c4 : c = 218
  · rw [if_pos c4] at h
    split at h
    · cases h
    · split at h
      · cases h
      · split at h
        · cases h
        · injection h with h
          subst h
          obtain ⟨h1, h2⟩ := parts_ok ((d.drop 1).take (2 * lead d))
          rw [List.length_take, List.length_drop] at h2
          refine ⟨{ h0 with parts := fun p hp => ?_, ids := fun x hx => ?_, fewP := by show (List.map _ _).length ≤ _; rw [List.length_map]; omega, fewI := by show (List.map _ _).length ≤ _; rw [List.length_map]; omega }, fun q h => (by cases h), fun p hp => ?_⟩
          · obtain ⟨x, hx, rfl⟩ := List.mem_map.1 hp
            exact ⟨(h1 x hx).2.2.1, (h1 x hx).2.2.2⟩
          · obtain ⟨y, hy, rfl⟩ := List.mem_map.1 hx
            exact (h1 y hy).1
          · obtain ⟨x, hx, rfl⟩ := List.mem_map.1 hp
            exact (h1 x hx).2.1
  rw [if_neg c4] at h
  by_cases c5 : c = 221
  · rw [if_pos c5] at h
    split at h
    · cases h
    · injection h with h
      subst h
      have h1 := (d.getD 0 0).toNat_lt
      have h2 := (d.getD 1 0).toNat_lt
      exact ⟨{ h0 with rs := by show _ ≤ ((two (d.getD 0 0) (d.getD 1 0) : Nat) : Int) ∧ ((two (d.getD 0 0) (d.getD 1 0) : Nat) : Int) ≤ _; unfold two; omega }, fun q h => (by cases h), fun q h => (by cases h)⟩
  · rw [if_neg c5] at h
    injection h with h
    subst h
    exact ⟨{ h0 with fewD := hd }, fun q h => (by cases h), fun q h => (by cases h)⟩
theorem ok_at {s : SegM} (h : SegOk s) (a b : Int) : SegOk { s with at_ := a, end_ := b } := ⟨h.code, h.kind, h.quants, h.huffs, h.comps, h.parts, h.ids, h.fewQ, h.fewH, h.fewC, h.fewP, h.fewI, h.fewD, h.rs⟩
theorem read_ok {f : List UInt8} {p : Int} {s : SegM} (h : readM f p = .seg s) (hf : f.length ≤ 16777216) : SegOk s ∧ (∀ h ∈ s.huffs, h.vals.length ≤ f.length) ∧ ∀ p ∈ s.parts, p.comp = 0 := by
  obtain ⟨n, c, L, r, rfl, h2, h3, h4, h5, h6, h7, h8, h9, rfl⟩ := readM_seg h
  have hc : c < 256 := by rw [← h5]; exact (f.getD (n + 1) 0).toNat_lt
  have hl : ((f.drop (n + 4)).take (L - 2)).length ≤ f.length := by rw [List.length_take, List.length_drop]; omega
  obtain ⟨k1, k2, k3⟩ := cont_ok h9 hc (by omega)
  exact ⟨ok_at k1 _ _, fun q hq => Nat.le_trans (k2 q hq) hl, k3⟩
theorem ok_wf {m : SegM} (h : SegOk m) : m.wf :=
  ⟨h.code, h.quants, fun q hq => ⟨(h.huffs q hq).cls, (h.huffs q hq).id, (h.huffs q hq).len, (h.huffs q hq).cnt, (h.huffs q hq).vals⟩, h.comps, h.parts, h.ids⟩
end Go.Proofs.YtjfgfoeenajneaaDoor.Sg
namespace Go.Proofs.YtjfgfoeenajneaaDoor.Sg
open Go.RowKit

set_option maxRecDepth 100000 in
set_option maxHeartbeats 16000000 in
theorem segAgain_law (f : List UInt8) (p : Int) (w : World) (hev : ErrT w) (hl : f.length ≤ 16777216) (hp1 : -9223372036854775808 ≤ p) (hp2 : p ≤ 9223372036854775807) :
    Calls Tryd.prog 5 #[.string (Bs f), .int .i64 p] w fun e w' => e = .returned (.bool true) ∧ Below w.heap.size w w' := by
  go_enter Tryd.func5, Tryd.ntmps5
  have HAW := Lib.hid (awake_any w hev)
  go_wp2_with fail
  refine HAW.out.mono ?_
  rintro e w1 ⟨rfl, hb1⟩
  have hr := read_any f p w1 (hev.below hb1) hl hp1 hp2
  clear hev HAW
  obtain ⟨r, hrr⟩ : ∃ r, readM f p = r := ⟨_, rfl⟩
  rw [hrr] at hr
  have HR := Lib.hid hr; clear hr
  have hi1 : (Tryd.prog.info? 30).map (·.size) = some (segC SegM.none_ nilS nilS nilS nilS nilS).size := size13R
  have hi3 : (segC SegM.none_ nilS nilS nilS nilS nilS).all (·.oneCell') = true := one13 _ _ _ _ _ _ rfl rfl rfl rfl rfl
  have HI := Lib.hid (And.intro hi1 hi3); clear hi1 hi3
  have hfs : (Bs f).size = f.length := Bs_size f
  have HFS := Lib.hid hfs; clear hfs
  cases r with
  | fault c q =>
    generalize Bs f = F at HR ⊢
    clear HFS hrr
    go_wp2_with fail
    refine HR.out.mono ?_
    rintro e w2 ⟨hb2, g2, rfl, _, _⟩
    have hb3 := below_then hb1 hb2
    clear hb1 hb2 HR
    go_upto_region 3 with (refine wpList_store_row rfl _ _ _ rfl _ _ rfl rfl _ _ (Blk.new w2 _ _) HI.out.1 rfl HI.out.2 ?_)
    have hbB : Below w2.heap.size w2 ((w2.alloc (.cells #[.int .u8 0, .int .i64 0, .int .i64 0, .slice none 0 0, .slice none 0 0, .int .u8 0, .int .i64 0, .int .i64 0, .slice none 0 0, .slice none 0 0, .slice none 0 0, .int .i64 0, .string (ByteArray.mk #[])] 30)).setRow w2.heap.size (segC SegM.none_ nilS nilS nilS nilS nilS)) := grown_below (grown_row (grown_alloc (grown_of_below (Below.refl _ _) none) _) (.inl (Nat.le_refl _)) _)
    have hb4 := below_then hb3 hbB
    generalize ((w2.alloc (.cells #[.int .u8 0, .int .i64 0, .int .i64 0, .slice none 0 0, .slice none 0 0, .int .u8 0, .int .i64 0, .int .i64 0, .slice none 0 0, .slice none 0 0, .slice none 0 0, .int .i64 0, .string (ByteArray.mk #[])] 30)).setRow w2.heap.size (segC SegM.none_ nilS nilS nilS nilS nilS)) = w3 at hb4 ⊢
    go_wp2_with fail
    go_ret
    exact ⟨rfl, hb4⟩
  | seg s =>
    obtain ⟨n, e, hpn, hsa, hse, hne, hef, htx⟩ := read_again hrr
    obtain ⟨hok, _, _⟩ := read_ok hrr hl
    subst hpn
    have HOK := Lib.hid hok; clear hok hrr
    have HSE := Lib.hid (And.intro hsa hse); clear hsa hse
    have hcut : (Bs f).extract n e = Bs ((f.drop n).take (e - n)) := Bs_cut f n e
    generalize (f.drop n).take (e - n) = t at htx hcut
    have HTX := Lib.hid htx; clear htx
    obtain ⟨F, hF⟩ : ∃ F, Bs f = F := ⟨_, rfl⟩
    obtain ⟨T, hT⟩ : ∃ T, Bs t = T := ⟨_, rfl⟩
    rw [hF] at HR HFS hcut ⊢
    rw [hT] at hcut
    have HBS := Lib.hid (And.intro hF hT); clear hF hT
    have HCUT := Lib.hid hcut; clear hcut
    go_wp2_with fail
    refine HR.out.mono ?_
    rintro e2 w2 ⟨hb2, vq, vh, vc, vp, vi, rfl, hls⟩
    have hb3 := below_then hb1 hb2
    clear hb1 hb2 HR
    have hat := hls.loose.at_
    have hone : (segC s vq vh vc vp vi).all (·.oneCell') = true := one13 _ _ _ _ _ _ (own_one hls.q) (by obtain ⟨_, _, h9, _⟩ := hls.h; exact own_one h9) (own_one hls.c) (own_one hls.p) (own_one hls.i)
    obtain ⟨sv, hsv⟩ : ∃ x, x = segC s vq vh vc vp vi := ⟨_, rfl⟩
    rw [← hsv]
    have hsz : (Tryd.prog.info? 30).map (·.size) = some sv.size := by rw [hsv]; exact size13R
    have hz2 : ((#[.int .u8 0, .int .i64 0, .int .i64 0, .slice none 0 0, .slice none 0 0, .int .u8 0, .int .i64 0, .int .i64 0, .slice none 0 0, .slice none 0 0, .slice none 0 0, .int .i64 0, .string (ByteArray.mk #[])] : Array Value).size = sv.size) := by rw [hsv]; rfl
    rw [← hsv] at hone
    have HSV := Lib.hid (And.intro hsv (And.intro hsz (And.intro hone hz2))); clear hsv hsz hone hz2 hls
    go_upto_region 3 with (refine wpList_store_row rfl _ _ _ rfl _ _ rfl rfl _ _ (Blk.new w2 _ _) HSV.out.2.1 HSV.out.2.2.2 HSV.out.2.2.1 ?_)
    have hD : Blk ((w2.alloc (.cells #[.int .u8 0, .int .i64 0, .int .i64 0, .slice none 0 0, .slice none 0 0, .int .u8 0, .int .i64 0, .int .i64 0, .slice none 0 0, .slice none 0 0, .slice none 0 0, .int .i64 0, .string (ByteArray.mk #[])] 30)).setRow w2.heap.size sv) w2.heap.size 30 sv := (Blk.new w2 _ _).row
    have hbB : Below w2.heap.size w2 ((w2.alloc (.cells #[.int .u8 0, .int .i64 0, .int .i64 0, .slice none 0 0, .slice none 0 0, .int .u8 0, .int .i64 0, .int .i64 0, .slice none 0 0, .slice none 0 0, .slice none 0 0, .int .i64 0, .string (ByteArray.mk #[])] 30)).setRow w2.heap.size sv) := grown_below (grown_row (grown_alloc (grown_of_below (Below.refl _ _) none) _) (.inl (Nat.le_refl _)) _)
    have hb4 := below_then hb3 hbB
    have hat4 := hat.below hbB
    clear hb3 hbB hat
    generalize ((w2.alloc (.cells #[.int .u8 0, .int .i64 0, .int .i64 0, .slice none 0 0, .slice none 0 0, .int .u8 0, .int .i64 0, .int .i64 0, .slice none 0 0, .slice none 0 0, .slice none 0 0, .int .i64 0, .string (ByteArray.mk #[])] 30)).setRow w2.heap.size sv) = w3 at hb4 hD hat4 ⊢
    obtain ⟨d, hd⟩ : ∃ d, w2.heap.size = d := ⟨_, rfl⟩
    rw [hd] at hD
    simp only [hd]
    have HD := Lib.hid hd; clear hd
    have ht := text_any s vq vh vc vp vi w3 hat4 HOK.out
    rw [← HSV.out.1, HTX.out] at ht
    have HT := Lib.hid ht; clear ht hat4
    go_wp2_with (refine wpList_load_row rfl _ _ rfl d rfl _ _ _ _ hD Tryd.underlying30 rfl HSV.out.2.1 ?_)
    refine HT.out.mono ?_
    rintro e2 w4 ⟨rfl, hb5⟩
    rw [HBS.out.2]
    have hD4 := hD.kept hb5
    have hb6 := below_then hb4 hb5
    clear hD hb4 hb5 HT
    have k1 : w4.cell? ⟨d, 1, none⟩ = some (.int .i64 (n : Int)) := by rw [hD4.cell, HSV.out.1, ← HSE.out.1]; rfl
    have k2 : w4.cell? ⟨d, 2, none⟩ = some (.int .i64 (e : Int)) := by rw [hD4.cell, HSV.out.1, ← HSE.out.2]; rfl
    clear hD4
    have hs2 := HFS.out
    have hc2 := HCUT.out
    have hn1 : (n : Int) + 4 ≤ (e : Int) := by omega
    have hn2 : (e : Int) ≤ (f.length : Int) := by omega
    have hn3 : (n : Int) ≤ (e : Int) := by omega
    have hn4 : 0 ≤ (n : Int) := by omega
    have hw : IntKind.i64.wrap ((n : Int) + 4) = (n : Int) + 4 := IntWalk.i64_in _ (by omega)
    go_wp2_with fail
    go_ret
    exact ⟨rfl, hb6⟩
end Go.Proofs.YtjfgfoeenajneaaDoor.Sg
