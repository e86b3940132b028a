/- The program reads tables of codes, one behind the other. -/
import Derived.Test.YtjfgfoeenajneaaGreatDoorGC0
namespace Go.Proofs.YtjfgfoeenajneaaGreatDoor.Sg
open Go.RowKit

theorem readHuff_any (base d s first : Nat) (m : SegM) (l : List UInt8) (acc : List HuffM) (w : World) (hin : HIn base d s m w l acc w) (hd : d < base) (hs : s < base) (hb : base ≤ w.heap.size) (hf : first < 256) (hf1 : first / 16 ≤ 1) (hf2 : first % 16 ≤ 3) (hl : l.length ≤ 16777216) (hacc : acc.length ≤ 16777216) :
    Calls Tryz.prog 67 #[.pointer (some ⟨s, 0, none⟩), .pointer (some ⟨d, 0, none⟩), .int .u8 (first : Int)] w (RHP base d s m w (rhM (first / 16) (first % 16) l acc)) :=
  readHuffI base d s first _ _ m l acc w hin hd hs hb hf rfl rfl hf1 hf2 hl hacc
theorem rhp_ret {base d s : Nat} {m : SegM} {w w' : World} {r : Res (List UInt8 × List HuffM)} {e : Ending} (h : RHP base d s m w r e w') : ∃ v, e = .returned (.int .i64 v) := by
  unfold RHP at h
  cases r with
  | bad c => exact ⟨_, h.1⟩
  | ok p => exact ⟨_, h.1⟩
theorem HIn.str {base d s : Nat} {m : SegM} {w u : World} {l : List UInt8} {acc : List HuffM} (h : HIn base d s m w l acc u) : StrAt 136 u d l := by obtain ⟨v, ps, _, h, _⟩ := h; exact h
theorem HIn.seg {base d s : Nat} {m : SegM} {w u : World} {l : List UInt8} {acc : List HuffM} (h : HIn base d s m w l acc u) : ∃ cs, Blk u s 31 cs := by obtain ⟨v, ps, _, _, h, _⟩ := h; exact ⟨_, h⟩
theorem HIn.ne {base d s : Nat} {m : SegM} {w u : World} {l : List UInt8} {acc : List HuffM} (h : HIn base d s m w l acc u) : d ≠ s := by obtain ⟨cs, h2⟩ := h.seg; exact h.str.ne h2 (by decide)
theorem HIn.but {base d s : Nat} {m : SegM} {w u : World} {l : List UInt8} {acc : List HuffM} (h : HIn base d s m w l acc u) : But2 base d s w u := by obtain ⟨v, ps, _, _, _, _, _, _, h⟩ := h; exact h
theorem HIn.self {base d s : Nat} {m : SegM} {w u : World} {l : List UInt8} {acc : List HuffM} (h : HIn base d s m w l acc u) : HIn base d s m u l acc u := by obtain ⟨v, ps, h0, h1, h2, h3, h4, h5, _⟩ := h; exact ⟨v, ps, h0, h1, h2, h3, h4, h5, But2.refl _ _ _ _⟩
theorem HIn.since {base d s : Nat} {m : SegM} {w u u' : World} {l : List UInt8} {acc : List HuffM} (hb : But2 base d s w u) (h : HIn base d s m u l acc u') : HIn base d s m w l acc u' := by obtain ⟨v, ps, h0, h1, h2, h3, h4, h5, h6⟩ := h; exact ⟨v, ps, h0, h1, h2, h3, h4, h5, hb.trans h6⟩
theorem HIn.took {base d s : Nat} {m : SegM} {w u : World} (l l2 : List UInt8) {acc : List HuffM} (h : HIn base d s m w l acc u) (hd : d < base) (_hs : s < base) (hb : base ≤ w.heap.size) : HIn base d s m w l2 acc (u.setCell ⟨d, 0, none⟩ (.string (Bs l2))) := by
  have hne := h.ne
  obtain ⟨v, ps, h0, h1, h2, h3, h4, h5, h6⟩ := h
  refine ⟨v, ps, h0, StrAt.set (m := l2) h1, h2.far (p := ⟨d, 0, none⟩) (Ne.symm hne) _, own_keep h3 (fun g hg => Below.heap_setCell u _ _ g (by have := (h3.lt g hg).1; show g ≠ d; omega)), fun p hp => (h4 p hp).keep (fun g hg => Below.heap_setCell u _ _ g (by obtain ⟨g', e', h9, _⟩ := (h4 p hp).lt; rw [e'] at hg; injection hg with hg; show g ≠ d; omega)), h5, h6.trans (But2.of_grown (grown_one _) (fun g e => .inl (by injection e with e; exact e.symm)) (by have := h6.size; omega))⟩
theorem rhM_len (x y : Nat) (l : List UInt8) (acc : List HuffM) : ∀ l2 acc2, rhM x y l acc = .ok (l2, acc2) → l2.length ≤ l.length ∧ acc2.length + l2.length ≤ acc.length + l.length + 1 := by
  intro l2 acc2 h
  unfold rhM at h
  split at h
  · cases h
  split at h
  · cases h
  split at h
  · cases h
  · injection h with h
    injection h with h1 h2
    subst h1 h2
    simp
    omega
set_option maxRecDepth 100000 in
set_option maxHeartbeats 8000000 in
theorem fillH_any (base d s c1 c2 first : Nat) (m : SegM) (l : List UInt8) (acc : List HuffM) (w : World) (hin : HIn base d s m w l acc w) (hd : d < base) (hs : s < base) (_hc1 : c1 < base) (_hc2 : c2 < base) (hb : base ≤ w.heap.size) (hx1 : Blk w c1 71 #[.pointer (some ⟨s, 0, none⟩)]) (hx2 : Blk w c2 134 #[.pointer (some ⟨d, 0, none⟩)]) (hf : first < 256) (hf1 : first / 16 ≤ 1) (hf2 : first % 16 ≤ 3) (hl : l.length ≤ 16777216) (hacc : acc.length ≤ 16777216) :
    Calls Tryz.prog 66 #[.int .u8 (first : Int), .pointer (some ⟨c1, 0, none⟩), .pointer (some ⟨c2, 0, none⟩)] w (RHP base d s m w (rhM (first / 16) (first % 16) l acc)) := by
  have k1 : w.cell? ⟨c1, 0, none⟩ = some (.pointer (some ⟨s, 0, none⟩)) := by rw [hx1.cell]; rfl
  have k2 : w.cell? ⟨c2, 0, none⟩ = some (.pointer (some ⟨d, 0, none⟩)) := by rw [hx2.cell]; rfl
  have HC := Lib.hid ((readHuff_any base d s first m l acc w hin hd hs hb hf hf1 hf2 hl hacc).mono (fun e w' h => And.intro h (rhp_ret h)))
  generalize RHP base d s m w (rhM (first / 16) (first % 16) l acc) = Post at HC ⊢
  clear hin hx1 hx2
  go_enter Tryz.func66, Tryz.ntmps66
  go_wp2_with fail
  refine HC.out.mono ?_
  rintro e w' ⟨he, v, rfl⟩
  have HE := Lib.hid he; clear he
  go_wp2_with fail
  exact HE.out
def THP (base d s : Nat) (m : SegM) (w : World) (r : Res (List HuffM)) (e : Ending) (w' : World) : Prop :=
  match r with
  | .bad c => e = .returned (.int .i64 (c : Nat)) ∧ c ≠ 0 ∧ But2 base d s w w' ∧ w.heap.size ≤ w'.heap.size
  | .ok acc => e = .returned (.int .i64 0) ∧ HIn base d s m w [] acc w'
theorem huffsM_cons (n : Nat) (b : UInt8) (r : List UInt8) (acc : List HuffM) : huffsM (n + 1) (b :: r) acc = if 1 < b.toNat / 16 ∨ 3 < b.toNat % 16 then .bad 153 else match rhM (b.toNat / 16) (b.toNat % 16) r acc with
    | .bad c => .bad c
    | .ok (l, acc) => huffsM n l acc := by
  simp only [huffsM, rhM]
  split
  · rfl
  split
  · rfl
  split
  · rfl
  split
  · rfl
  · rfl
theorem huffsM_nil (n : Nat) (acc : List HuffM) : huffsM n [] acc = .ok acc := by cases n <;> rfl
set_option maxRecDepth 100000 in
set_option maxHeartbeats 16000000 in
theorem tablesH_any (base d s c1 c2 : Nat) (m : SegM) (l : List UInt8) (w : World) (hin : HIn base d s m w l [] w) (hd : d < base) (hs : s < base) (hc1 : c1 < base) (hc2 : c2 < base) (hb : base ≤ w.heap.size) (hx1 : Blk w c1 71 #[.pointer (some ⟨s, 0, none⟩)]) (hx2 : Blk w c2 134 #[.pointer (some ⟨d, 0, none⟩)]) (hl : l.length ≤ 16777216) :
    Calls Tryz.prog 63 #[.pointer (some ⟨d, 0, none⟩), .func (.func 66) #[] #[.pointer (some ⟨c1, 0, none⟩), .pointer (some ⟨c2, 0, none⟩)]] w (THP base d s m w (if l = [] then .bad 152 else huffsM l.length l [])) := by
  have hd0 := HIn.str hin
  have c0 : w.cell? ⟨d, 0, none⟩ = some (.string (Bs l)) := by rw [hd0.cell]; rfl
  cases hll : l with
  | nil =>
    subst hll
    go_enter Tryz.func63, Tryz.ntmps63
    rw [empty_Bs2] at c0
    go_wp2_with fail
    go_ret
    exact ⟨rfl, by decide, But2.refl _ _ _ _, Nat.le_refl _⟩
  | cons b0 r0 =>
  rw [← hll]
  have hl0 : l ≠ [] := by rw [hll]; simp
  rw [if_neg hl0]
  have hne0 := Bs_full hl0
  have hds : d ≠ s := HIn.ne hin
  have hcd : c2 ≠ d := hx2.ne hd0 (by decide)
  have hcd1 : c1 ≠ d := hx1.ne hd0 (by decide)
  have hcs : c2 ≠ s := hx2.ne (HIn.seg hin).choose_spec (by decide)
  have hcs1 : c1 ≠ s := hx1.ne (HIn.seg hin).choose_spec (by decide)
  clear hll b0 r0
  go_enter Tryz.func63, Tryz.ntmps63
  go_upto_region 3 with fail
  clear hne0
  go_loopw [] (fun wr => ∃ (rest : List UInt8) (n : Nat) (acc : List HuffM), HIn base d s m w rest acc wr ∧ rest.length ≤ n ∧ acc.length + rest.length ≤ l.length ∧ huffsM l.length l [] = huffsM n rest acc) (fun wr => strLen wr d)
  case atStart => exact ⟨l, l.length, [], hin, Nat.le_refl _, by simp, rfl⟩
  clear c0 hin hd0
  case round =>
    obtain ⟨rest, n, acc, hin, hn1, hn2, hq⟩ := hrel
    have HQ := Lib.hid hq; clear hq
    have hd1 := HIn.str hin
    have hbut := HIn.but hin
    cases rest with
    | nil =>
      have c0 : wr.cell? ⟨d, 0, none⟩ = some (.string (Bs [])) := by rw [hd1.cell]; rfl
      rw [empty_Bs2] at c0
      have hres : huffsM l.length l [] = .ok acc := by rw [HQ.out, huffsM_nil]
      have HR := Lib.hid hres; clear hres
      go_wp2_with fail
      go_ret
      rw [HR.out]
      exact ⟨rfl, hin⟩
    | cons b r =>
      obtain ⟨n, rfl⟩ : ∃ m, n = m + 1 := ⟨n - 1, by simp at hn1; omega⟩
      have hq := HQ.out
      rw [huffsM_cons] at hq
      have HQ := Lib.hid hq; clear hq
      have c0 : wr.cell? ⟨d, 0, none⟩ = some (.string (Bs (b :: r))) := by rw [hd1.cell]; rfl
      have hne0 := Bs_full (l := b :: r) (by simp)
      simp only [List.length_cons] at hn1 hn2
      go_wp2_with fail
      refine (take_any d 1 (b :: r) wr hd1 (by decide) (by simp; omega)).mono ?_
      rintro e w3 htk
      unfold TakeP at htk
      rw [if_neg (by simp)] at htk
      obtain ⟨rfl, rfl⟩ := htk
      have hin3 := HIn.took (b :: r) r hin hd hs hb
      have hmz : strLen wr d = r.length + 1 := by rw [strLen_at hd1]; rfl
      have HMZ := Lib.hid hmz; clear hmz
      have hsz3 : wr.heap.size ≤ (wr.setCell ⟨d, 0, none⟩ (.string (Bs r))).heap.size := by simp
      rw [show List.drop 1 (b :: r) = r from rfl, show List.take 1 (b :: r) = [b] from rfl]
      generalize wr.setCell ⟨d, 0, none⟩ (.string (Bs r)) = w3 at hin3 hsz3 ⊢
      have hwz := (HIn.but hin).size
      clear hin c0 hne0 hd1 hbut
      have hby : ∀ h : 0 < (Bs [b]).size, (Bs [b])[0] = b := fun _ => rfl
      have hbz : (Bs [b]).size = 1 := rfl
      generalize Bs [b] = LB at hby hbz ⊢
      have hbb := b.toNat_lt
      obtain ⟨x, hx⟩ : ∃ x, b.toNat / 16 = x := ⟨_, rfl⟩
      obtain ⟨y, hy⟩ : ∃ y, b.toNat % 16 = y := ⟨_, rfl⟩
      have gand : bits .and .u8 (b.toNat : Int) 15 = (y : Int) := by
        have h9 := u8_and_nat b.toNat 15 (by omega) (by omega)
        rw [show b.toNat &&& 15 = b.toNat % 16 from Nat.and_two_pow_sub_one_eq_mod b.toNat 4, hy] at h9
        simpa using h9
      have g1 : (b.toNat : Int) / 16 = (x : Int) := by omega
      have hq := HQ.out
      rw [hx, hy] at hq
      have HQ := Lib.hid hq; clear hq
      have HXY := Lib.hid (And.intro hx hy); clear hx hy
      by_cases h1 : 1 < x
      · have hres : huffsM l.length l [] = .bad 153 := by rw [HQ.out, if_pos (.inl h1)]
        have HR := Lib.hid hres; clear hres
        go_wp2_with fail
        go_ret
        rw [HR.out]
        exact ⟨rfl, by decide, HIn.but hin3, (HIn.but hin3).size⟩
      by_cases h3 : 3 < y
      · have hres : huffsM l.length l [] = .bad 153 := by rw [HQ.out, if_pos (.inr h3)]
        have HR := Lib.hid hres; clear hres
        go_wp2_with fail
        go_ret
        rw [HR.out]
        exact ⟨rfl, by decide, HIn.but hin3, (HIn.but hin3).size⟩
      have hq := HQ.out
      rw [if_neg (by omega)] at hq
      have HQ := Lib.hid hq; clear hq
      have hb3 := HIn.but hin3
      have hcall := fillH_any base d s c1 c2 b.toNat m r acc w3 (HIn.self hin3) hd hs hc1 hc2 (by omega) (hb3.blk hx1 hc1 hcd1 hcs1) (hb3.blk hx2 hc2 hcd hcs) (by omega) (by have := HXY.out; omega) (by have := HXY.out; omega) (by omega) (by omega)
      rw [HXY.out.1, HXY.out.2] at hcall
      have HCALL := Lib.hid hcall; clear hcall
      go_wp2_with fail
      refine HCALL.out.mono ?_
      rintro e w5 he
      have HE := Lib.hid he; clear he
      have HST := Lib.hid (rhM_len x y r acc)
      cases hr : rhM x y r acc with
      | bad c =>
        have h9 := HE.out
        rw [hr] at h9
        obtain ⟨rfl, hc0, hb5, hz5⟩ := h9
        have hres : huffsM l.length l [] = .bad c := by rw [HQ.out, hr]
        have HR := Lib.hid hres; clear hres hr
        have hcb : ((c : Int) != 0) = true := by simpa using hc0
        have hcb2 : ¬ ((c : Int) = 0) := by omega
        clear HE
        go_wp2_with fail
        go_ret
        rw [HR.out]
        exact ⟨rfl, hc0, hb3.trans hb5, by omega⟩
      | ok p =>
        obtain ⟨l2, acc2⟩ := p
        have h9 := HE.out
        rw [hr] at h9
        obtain ⟨rfl, hin5⟩ := h9
        have hres : huffsM l.length l [] = huffsM n l2 acc2 := by rw [HQ.out, hr]
        have hlen := HST.out _ _ hr
        have HR := Lib.hid hres; clear hres hr HE HST HQ
        have hin6 := HIn.since hb3 hin5
        go_wp2_with fail
        go_roundw
        case rel => exact ⟨l2, n, acc2, hin6, by omega, by omega, HR.out⟩
        case measure => rw [strLen_at (HIn.str hin6), HMZ.out]; omega
end Go.Proofs.YtjfgfoeenajneaaGreatDoor.Sg
