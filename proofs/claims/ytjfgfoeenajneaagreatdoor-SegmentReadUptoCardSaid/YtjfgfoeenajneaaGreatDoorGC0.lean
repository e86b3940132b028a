/- The program reads tables of steps, one behind the other. The program reads a table of codes. Bytes are written over. -/
import Derived.Test.YtjfgfoeenajneaaGreatDoorGB9
import Derived.Test.YtjfgfoeenajneaaGreatDoorGA4
import Derived.Lib.ConvBytes
namespace Go.Proofs.YtjfgfoeenajneaaGreatDoor.Sg
open Go.RowKit

theorem readQuant_any (base d s first : Nat) (m : SegM) (l : List UInt8) (acc : List QuantM) (w : World) (hin : QIn base d s m w l acc w) (hd : d < base) (hs : s < base) (hb : base ≤ w.heap.size) (hf : first < 256) (hf1 : first / 16 ≤ 1) (hf2 : first % 16 ≤ 3) (hl : l.length ≤ 16777216) (hacc : acc.length ≤ 16777216) :
    Calls Tryz.prog 65 #[.pointer (some ⟨s, 0, none⟩), .pointer (some ⟨d, 0, none⟩), .int .u8 (first : Int)] w (RQP base d s m w (rqM (first / 16) (first % 16) l acc)) := by
  obtain h | h : first / 16 = 0 ∨ first / 16 = 1 := by omega
  · rw [h]; exact readQuant0 base d s first _ m l acc w hin hd hs hb hf h rfl hf2 hl hacc
  · rw [h]; exact readQuant1 base d s first _ m l acc w hin hd hs hb hf h rfl hf2 hl hacc
theorem rqp_ret {base d s : Nat} {m : SegM} {w w' : World} {r : Res (List UInt8 × List QuantM)} {e : Ending} (h : RQP base d s m w r e w') : ∃ v, e = .returned (.int .i64 v) := by
  unfold RQP at h
  cases r with
  | bad c => exact ⟨_, h.1⟩
  | ok p => exact ⟨_, h.1⟩
theorem QIn.str {base d s : Nat} {m : SegM} {w u : World} {l : List UInt8} {acc : List QuantM} (h : QIn base d s m w l acc u) : StrAt 136 u d l := by obtain ⟨v, h, _⟩ := h; exact h
theorem QIn.seg {base d s : Nat} {m : SegM} {w u : World} {l : List UInt8} {acc : List QuantM} (h : QIn base d s m w l acc u) : ∃ cs, Blk u s 31 cs := by obtain ⟨v, _, h, _⟩ := h; exact ⟨_, h⟩
theorem QIn.ne {base d s : Nat} {m : SegM} {w u : World} {l : List UInt8} {acc : List QuantM} (h : QIn base d s m w l acc u) : d ≠ s := by obtain ⟨cs, h2⟩ := h.seg; exact h.str.ne h2 (by decide)
theorem QIn.but {base d s : Nat} {m : SegM} {w u : World} {l : List UInt8} {acc : List QuantM} (h : QIn base d s m w l acc u) : But2 base d s w u := by obtain ⟨v, _, _, _, h⟩ := h; exact h
theorem QIn.self {base d s : Nat} {m : SegM} {w u : World} {l : List UInt8} {acc : List QuantM} (h : QIn base d s m w l acc u) : QIn base d s m u l acc u := by obtain ⟨v, h1, h2, h3, _⟩ := h; exact ⟨v, h1, h2, h3, But2.refl _ _ _ _⟩
theorem QIn.since {base d s : Nat} {m : SegM} {w u u' : World} {l : List UInt8} {acc : List QuantM} (hb : But2 base d s w u) (h : QIn base d s m u l acc u') : QIn base d s m w l acc u' := by obtain ⟨v, h1, h2, h3, h4⟩ := h; exact ⟨v, h1, h2, h3, hb.trans h4⟩
theorem QIn.took {base d s : Nat} {m : SegM} {w u : World} (l l2 : List UInt8) {acc : List QuantM} (h : QIn base d s m w l acc u) (hd : d < base) (_hs : s < base) (hb : base ≤ w.heap.size) : QIn base d s m w l2 acc (u.setCell ⟨d, 0, none⟩ (.string (Bs l2))) := by
  have hne := h.ne
  obtain ⟨v, h1, h2, h3, h4⟩ := h
  refine ⟨v, StrAt.set (m := l2) h1, h2.far (p := ⟨d, 0, none⟩) (Ne.symm hne) _, own_keep h3 (fun g hg => Below.heap_setCell u _ _ g (by have := (h3.lt g hg).1; show g ≠ d; omega)), h4.trans (But2.of_grown (grown_one _) (fun g e => .inl (by injection e with e; exact e.symm)) (by have := h4.size; omega))⟩
theorem rqM_len (x y : Nat) (l : List UInt8) (acc : List QuantM) : ∀ l2 acc2, rqM x y l acc = .ok (l2, acc2) → l2.length ≤ l.length ∧ acc2.length + l2.length ≤ acc.length + l.length + 1 := by
  intro l2 acc2 h
  unfold rqM at h
  split at h
  · cases h
  split at h
  · cases h
  · injection h with h
    injection h with h1 h2
    subst h1 h2
    simp
    omega
theorem empty_Bs2 : Value.string (Bs []) = .string (ByteArray.mk #[]) := rfl
theorem Bs_full {l : List UInt8} (h : l ≠ []) : (Bs l).toList.isEmpty = false := by
  rw [ByteArray.toList_eq]
  show l.toArray.toList.isEmpty = false
  cases l with
  | nil => exact absurd rfl h
  | cons a b => rfl
theorem Bs_ne {l : List UInt8} (h : l ≠ []) : ¬ Bs l = ByteArray.mk #[] := fun e => h (Bs_inj (l := l) (m := []) e)
set_option maxRecDepth 100000 in
set_option maxHeartbeats 8000000 in
theorem fillQ_any (base d s c1 c2 first : Nat) (m : SegM) (l : List UInt8) (acc : List QuantM) (w : World) (hin : QIn base d s m w l acc w) (hd : d < base) (hs : s < base) (_hc1 : c1 < base) (_hc2 : c2 < base) (hb : base ≤ w.heap.size) (hx1 : Blk w c1 71 #[.pointer (some ⟨s, 0, none⟩)]) (hx2 : Blk w c2 134 #[.pointer (some ⟨d, 0, none⟩)]) (hf : first < 256) (hf1 : first / 16 ≤ 1) (hf2 : first % 16 ≤ 3) (hl : l.length ≤ 16777216) (hacc : acc.length ≤ 16777216) :
    Calls Tryz.prog 64 #[.int .u8 (first : Int), .pointer (some ⟨c1, 0, none⟩), .pointer (some ⟨c2, 0, none⟩)] w (RQP base d s m w (rqM (first / 16) (first % 16) l acc)) := by
  have k1 : w.cell? ⟨c1, 0, none⟩ = some (.pointer (some ⟨s, 0, none⟩)) := by rw [hx1.cell]; rfl
  have k2 : w.cell? ⟨c2, 0, none⟩ = some (.pointer (some ⟨d, 0, none⟩)) := by rw [hx2.cell]; rfl
  have HC := Lib.hid ((readQuant_any base d s first m l acc w hin hd hs hb hf hf1 hf2 hl hacc).mono (fun e w' h => And.intro h (rqp_ret h)))
  generalize RQP base d s m w (rqM (first / 16) (first % 16) l acc) = Post at HC ⊢
  clear hin hx1 hx2
  go_enter Tryz.func64, Tryz.ntmps64
  go_wp2_with fail
  refine HC.out.mono ?_
  rintro e w' ⟨he, v, rfl⟩
  have HE := Lib.hid he; clear he
  go_wp2_with fail
  exact HE.out
def TQP (base d s : Nat) (m : SegM) (w : World) (r : Res (List QuantM)) (e : Ending) (w' : World) : Prop :=
  match r with
  | .bad c => e = .returned (.int .i64 (c : Nat)) ∧ c ≠ 0 ∧ But2 base d s w w' ∧ w.heap.size ≤ w'.heap.size
  | .ok acc => e = .returned (.int .i64 0) ∧ QIn base d s m w [] acc w'
theorem quantsM_cons (n : Nat) (b : UInt8) (r : List UInt8) (acc : List QuantM) : quantsM (n + 1) (b :: r) acc = if 1 < b.toNat / 16 ∨ 3 < b.toNat % 16 then .bad 153 else match rqM (b.toNat / 16) (b.toNat % 16) r acc with
    | .bad c => .bad c
    | .ok (l, acc) => quantsM n l acc := by
  simp only [quantsM, rqM]
  split
  · rfl
  split
  · rfl
  split
  · rfl
  · rfl
set_option maxRecDepth 100000 in
set_option maxHeartbeats 16000000 in
theorem tablesQ_any (base d s c1 c2 : Nat) (m : SegM) (l : List UInt8) (w : World) (hin : QIn base d s m w l [] w) (hd : d < base) (hs : s < base) (hc1 : c1 < base) (hc2 : c2 < base) (hb : base ≤ w.heap.size) (hx1 : Blk w c1 71 #[.pointer (some ⟨s, 0, none⟩)]) (hx2 : Blk w c2 134 #[.pointer (some ⟨d, 0, none⟩)]) (hl : l.length ≤ 16777216) :
    Calls Tryz.prog 63 #[.pointer (some ⟨d, 0, none⟩), .func (.func 64) #[] #[.pointer (some ⟨c1, 0, none⟩), .pointer (some ⟨c2, 0, none⟩)]] w (TQP base d s m w (if l = [] then .bad 152 else quantsM l.length l [])) := by
  have hd0 := QIn.str hin
  have c0 : w.cell? ⟨d, 0, none⟩ = some (.string (Bs l)) := by rw [hd0.cell]; rfl
  cases hll : l with
  | nil =>
    subst hll
    go_enter Tryz.func63, Tryz.ntmps63
    rw [empty_Bs2] at c0
    go_wp2_with fail
    go_ret
    exact ⟨rfl, by decide, But2.refl _ _ _ _, Nat.le_refl _⟩
  | cons b0 r0 =>
  rw [← hll]
  have hl0 : l ≠ [] := by rw [hll]; simp
  rw [if_neg hl0]
  have hne0 := Bs_full hl0
  have hds : d ≠ s := QIn.ne hin
  have hcd : c2 ≠ d := hx2.ne hd0 (by decide)
  have hcd1 : c1 ≠ d := hx1.ne hd0 (by decide)
  have hcs : c2 ≠ s := hx2.ne (QIn.seg hin).choose_spec (by decide)
  have hcs1 : c1 ≠ s := hx1.ne (QIn.seg hin).choose_spec (by decide)
  clear hll b0 r0
  go_enter Tryz.func63, Tryz.ntmps63
  go_upto_region 3 with fail
  clear hne0
  go_loopw [] (fun wr => ∃ (rest : List UInt8) (n : Nat) (acc : List QuantM), QIn base d s m w rest acc wr ∧ rest.length ≤ n ∧ acc.length + rest.length ≤ l.length ∧ quantsM l.length l [] = quantsM n rest acc) (fun wr => strLen wr d)
  case atStart => exact ⟨l, l.length, [], hin, Nat.le_refl _, by simp, rfl⟩
  clear c0 hin hd0
  case round =>
    obtain ⟨rest, n, acc, hin, hn1, hn2, hq⟩ := hrel
    have HQ := Lib.hid hq; clear hq
    have hd1 := QIn.str hin
    have hbut := QIn.but hin
    cases rest with
    | nil =>
      have c0 : wr.cell? ⟨d, 0, none⟩ = some (.string (Bs [])) := by rw [hd1.cell]; rfl
      rw [empty_Bs2] at c0
      have hres : quantsM l.length l [] = .ok acc := by rw [HQ.out, quantsM_nil]
      have HR := Lib.hid hres; clear hres
      go_wp2_with fail
      go_ret
      rw [HR.out]
      exact ⟨rfl, hin⟩
    | cons b r =>
      obtain ⟨n, rfl⟩ : ∃ m, n = m + 1 := ⟨n - 1, by simp at hn1; omega⟩
      have hq := HQ.out
      rw [quantsM_cons] at hq
      have HQ := Lib.hid hq; clear hq
      have c0 : wr.cell? ⟨d, 0, none⟩ = some (.string (Bs (b :: r))) := by rw [hd1.cell]; rfl
      have hne0 := Bs_full (l := b :: r) (by simp)
      simp only [List.length_cons] at hn1 hn2
      go_wp2_with fail
      refine (take_any d 1 (b :: r) wr hd1 (by decide) (by simp; omega)).mono ?_
      rintro e w3 htk
      unfold TakeP at htk
      rw [if_neg (by simp)] at htk
      obtain ⟨rfl, rfl⟩ := htk
      have hin3 := QIn.took (b :: r) r hin hd hs hb
      have hmz : strLen wr d = r.length + 1 := by rw [strLen_at hd1]; rfl
      have HMZ := Lib.hid hmz; clear hmz
      have hsz3 : wr.heap.size ≤ (wr.setCell ⟨d, 0, none⟩ (.string (Bs r))).heap.size := by simp
      rw [show List.drop 1 (b :: r) = r from rfl, show List.take 1 (b :: r) = [b] from rfl]
      generalize wr.setCell ⟨d, 0, none⟩ (.string (Bs r)) = w3 at hin3 hsz3 ⊢
      have hwz := (QIn.but hin).size
      clear hin c0 hne0 hd1 hbut
      have hby : ∀ h : 0 < (Bs [b]).size, (Bs [b])[0] = b := fun _ => rfl
      have hbz : (Bs [b]).size = 1 := rfl
      generalize Bs [b] = LB at hby hbz ⊢
      have hbb := b.toNat_lt
      obtain ⟨x, hx⟩ : ∃ x, b.toNat / 16 = x := ⟨_, rfl⟩
      obtain ⟨y, hy⟩ : ∃ y, b.toNat % 16 = y := ⟨_, rfl⟩
      have gand : bits .and .u8 (b.toNat : Int) 15 = (y : Int) := by
        have h9 := u8_and_nat b.toNat 15 (by omega) (by omega)
        rw [show b.toNat &&& 15 = b.toNat % 16 from Nat.and_two_pow_sub_one_eq_mod b.toNat 4, hy] at h9
        simpa using h9
      have g1 : (b.toNat : Int) / 16 = (x : Int) := by omega
      have hq := HQ.out
      rw [hx, hy] at hq
      have HQ := Lib.hid hq; clear hq
      have HXY := Lib.hid (And.intro hx hy); clear hx hy
      by_cases h1 : 1 < x
      · have hres : quantsM l.length l [] = .bad 153 := by rw [HQ.out, if_pos (.inl h1)]
        have HR := Lib.hid hres; clear hres
        go_wp2_with fail
        go_ret
        rw [HR.out]
        exact ⟨rfl, by decide, QIn.but hin3, (QIn.but hin3).size⟩
      by_cases h3 : 3 < y
      · have hres : quantsM l.length l [] = .bad 153 := by rw [HQ.out, if_pos (.inr h3)]
        have HR := Lib.hid hres; clear hres
        go_wp2_with fail
        go_ret
        rw [HR.out]
        exact ⟨rfl, by decide, QIn.but hin3, (QIn.but hin3).size⟩
      have hq := HQ.out
      rw [if_neg (by omega)] at hq
      have HQ := Lib.hid hq; clear hq
      have hb3 := QIn.but hin3
      have hcall := fillQ_any base d s c1 c2 b.toNat m r acc w3 (QIn.self hin3) hd hs hc1 hc2 (by omega) (hb3.blk hx1 hc1 hcd1 hcs1) (hb3.blk hx2 hc2 hcd hcs) (by omega) (by have := HXY.out; omega) (by have := HXY.out; omega) (by omega) (by omega)
      rw [HXY.out.1, HXY.out.2] at hcall
      have HCALL := Lib.hid hcall; clear hcall
      go_wp2_with fail
      refine HCALL.out.mono ?_
      rintro e w5 he
      have HE := Lib.hid he; clear he
      have HST := Lib.hid (rqM_len x y r acc)
      cases hr : rqM x y r acc with
      | bad c =>
        have h9 := HE.out
        rw [hr] at h9
        obtain ⟨rfl, hc0, hb5, hz5⟩ := h9
        have hres : quantsM l.length l [] = .bad c := by rw [HQ.out, hr]
        have HR := Lib.hid hres; clear hres hr
        have hcb : ((c : Int) != 0) = true := by simpa using hc0
        have hcb2 : ¬ ((c : Int) = 0) := by omega
        clear HE
        go_wp2_with fail
        go_ret
        rw [HR.out]
        exact ⟨rfl, hc0, hb3.trans hb5, by omega⟩
      | ok p =>
        obtain ⟨l2, acc2⟩ := p
        have h9 := HE.out
        rw [hr] at h9
        obtain ⟨rfl, hin5⟩ := h9
        have hres : quantsM l.length l [] = quantsM n l2 acc2 := by rw [HQ.out, hr]
        have hlen := HST.out _ _ hr
        have HR := Lib.hid hres; clear hres hr HE HST HQ
        have hin6 := QIn.since hb3 hin5
        go_wp2_with fail
        go_roundw
        case rel => exact ⟨l2, n, acc2, hin6, by omega, by omega, HR.out⟩
        case measure => rw [strLen_at (QIn.str hin6), HMZ.out]; omega
end Go.Proofs.YtjfgfoeenajneaaGreatDoor.Sg
namespace Go.Proofs.YtjfgfoeenajneaaGreatDoor.Sg
open Go.RowKit
open Go.Proofs.YtjfgfoeenajneaaGreatDoor.Lex (F)

/-- bytes in a row of their own, as a conversion makes it -/
def VB (w : World) (base : Nat) (v : Value) (t : List Nat) : Prop :=
  ∃ g cap cur, v = .slice (some ⟨g, 0, none⟩) t.length cap ∧ base ≤ g ∧ w.heap[g]? = some (.cells cur 5 (cap, cap + 1)) ∧ cur.size = cap ∧ t.length ≤ cap ∧ cur.toList.take t.length = u8s t
theorem VB.keep {w w' : World} {base : Nat} {v : Value} {t : List Nat} (h : VB w base v t) (hk : ∀ g, v.ownBlock = some g → w'.heap[g]? = w.heap[g]?) : VB w' base v t := by
  obtain ⟨g, cap, cur, rfl, h1, h2, h3⟩ := h
  exact ⟨g, cap, cur, rfl, h1, (hk g rfl).trans h2, h3⟩
theorem VB.lt {w : World} {base : Nat} {v : Value} {t : List Nat} (h : VB w base v t) : ∃ g, v.ownBlock = some g ∧ base ≤ g ∧ g < w.heap.size := by
  obtain ⟨g, cap, cur, rfl, h1, h2, h3⟩ := h
  exact ⟨g, rfl, h1, (Array.getElem?_eq_some_iff.1 h2).1⟩
theorem VB.sl {w : World} {base : Nat} {v : Value} {t : List Nat} (h : VB w base v t) : SlB w v t := by
  obtain ⟨g, cap, cur, rfl, h1, h2, h3, h4, h5⟩ := h
  refine ⟨_, cap, rfl, ⟨u8s_length t, fun _ => ⟨g, 0, rfl, fun j hj => ?_⟩⟩, trivial⟩
  rw [Nat.zero_add, ← h5, List.getElem?_take, if_pos hj]
  simp [World.cell?, h2]
theorem VB.ne {w : World} {base g : Nat} {v : Value} {t : List Nat} {ty : TypeId} {cs : Array Value} {z : Nat × Nat} (h : VB w base v t) (hg : w.heap[g]? = some (.cells cs ty z)) (ht : ty ≠ 5) : v.ownBlock ≠ some g := by
  obtain ⟨g', cap, cur, rfl, h1, h2, _⟩ := h
  intro e
  injection e with e
  subst e
  rw [h2] at hg
  injection hg with hg
  injection hg with _ h9 _
  exact ht h9.symm
theorem vb_row {w : World} {base b2 g n : Nat} {v vr : Value} {t : List Nat} {xs : List Value} (h : VB w base v t) (hr : w.ownsRow b2 87 19 vr n xs) (e : v.ownBlock = some g) (e2 : vr.ownBlock = some g) : False := by
  rcases hr.2 with ⟨rfl, _⟩ | ⟨g', c, cur, rfl, _, hg', _⟩
  · cases e2
  · injection e2 with e2
    subst e2
    exact h.ne hg' (by decide) e
theorem VB.new (w : World) (base : Nat) (l : List UInt8) (hb : base ≤ w.heap.size) : VB (Go.Lib.bytesWorld w 5 (Bs l)) base (.slice (some ⟨w.heap.size, 0, none⟩) l.length (grownCap w l.length 0 5)) (nats l) := by
  have h1 := Go.Lib.bytesWorld_at_new w 5 (Bs l)
  have h2 : (Go.Lib.bytesCells w 5 (Bs l)).size = grownCap w l.length 0 5 := by
    have := grownCap_ge w l.length 0 5
    unfold Go.Lib.bytesCells
    rw [Array.size_append, Array.size_map, Array.size_replicate, Bs_size]
    show l.toArray.size + _ = _
    simp
    omega
  rw [h2] at h1
  refine ⟨w.heap.size, _, _, by simp [nats], hb, h1, h2, by have := grownCap_ge w l.length 0 5; simpa [nats] using this, ?_⟩
  unfold Go.Lib.bytesCells
  rw [Array.toList_append, Array.toList_map, List.take_append_of_le_length (by simp [nats, Bs])]
  rw [List.take_of_length_le (by simp [nats, Bs])]
  unfold u8s nats Bs
  simp

def huffF (cls id : Nat) (cnt : List Nat) (k : Nat) (v : Value) : List Value := .int .u8 (cls : Nat) :: .int .u8 (id : Nat) :: (u8s (cnt.take k ++ List.replicate (16 - k) 0) ++ [v])
theorem infoH : (Tryz.prog.info? 87).map (fun i => (i.zero, i.size, i.bytes)) = some (some (.agg (huffF 0 0 [] 0 nilS).toArray), 19, 48) := by kernel_rfl
theorem huffF_one (c i : Nat) (cnt : List Nat) (k : Nat) : ∀ u ∈ huffF c i cnt k nilS, u.oneCell' = true := by
  intro u hu
  unfold huffF u8s at hu
  simp only [List.mem_cons, List.mem_append, List.mem_map, List.not_mem_nil, or_false] at hu
  rcases hu with rfl | rfl | ⟨n, _, rfl⟩ | rfl <;> rfl
theorem huffF_cnt (_c _i : Nat) (cnt : List Nat) (k : Nat) (v : Value) (h : k < 16) (ht : cnt.length = 16) : (u8s (cnt.take k ++ List.replicate (16 - k) 0) ++ [v]).set k (.int .u8 (cnt.getD k 0 : Nat)) = u8s (cnt.take (k + 1) ++ List.replicate (16 - (k + 1)) 0) ++ [v] := by
  have e1 : (cnt.take k).length = k := by rw [List.length_take]; omega
  rw [List.set_append_left _ _ (by rw [u8s_length, List.length_append, e1, List.length_replicate]; omega)]
  congr 1
  unfold u8s
  rw [show Value.int IntKind.u8 (cnt.getD k 0 : Nat) = (fun (n : Nat) => Value.int .u8 (n : Int)) (cnt.getD k 0) from rfl, ← List.map_set, List.set_append_right _ _ (by omega), e1, Nat.sub_self, show 16 - k = (16 - (k + 1)) + 1 by omega, List.replicate_succ, List.set_cons_zero, take_next (a := cnt.getD k 0) (by rw [List.getD_eq_getElem?_getD, List.getElem?_eq_getElem (by omega)]; rfl)]
  simp
theorem huffF_set (c i : Nat) (cnt : List Nat) (k : Nat) (v : Value) (h : k < 16) (ht : cnt.length = 16) : (huffF c i cnt k v).set (2 + k) (.int .u8 (cnt.getD k 0 : Nat)) = huffF c i cnt (k + 1) v := by
  unfold huffF
  rw [show 2 + k = (k + 1) + 1 by omega, List.set_cons_succ, List.set_cons_succ, huffF_cnt c i cnt k v h ht]
theorem huffF_get (c i : Nat) (cnt : List Nat) (k : Nat) (v : Value) (h : k < 16) (ht : cnt.length = 16) : (huffF c i cnt k v).toArray[2 + k]? = some (.int .u8 0) := by
  unfold huffF
  have e1 : (cnt.take k).length = k := by rw [List.length_take]; omega
  rw [show 2 + k = (k + 1) + 1 by omega, List.getElem?_toArray, List.getElem?_cons_succ, List.getElem?_cons_succ, List.getElem?_append_left (by rw [u8s_length, List.length_append, e1, List.length_replicate]; omega), u8s_get (by rw [List.length_append, e1, List.length_replicate]; omega), List.getD_eq_getElem?_getD, List.getElem?_append_right (by omega), e1, List.getElem?_replicate, if_pos (by omega)]
  rfl
theorem huffF_all (c i : Nat) (cnt vals : List Nat) (v : Value) (ht : cnt.length = 16) : huffF c i cnt 16 v = huffC (⟨c, i, cnt, vals⟩, v) := by
  unfold huffF huffC specC
  rw [List.take_of_length_le (by omega)]
  simp
theorem huffC_set (c i : Nat) (cnt vals vals2 : List Nat) (v v2 : Value) (ht : cnt.length = 16) : (huffC (⟨c, i, cnt, vals⟩, v)).set 18 v2 = huffC (⟨c, i, cnt, vals2⟩, v2) := by
  unfold huffC specC
  show _ :: _ :: ((u8s cnt ++ [v]).set 16 v2) = _
  rw [List.set_append_right _ _ (by rw [u8s_length]; omega), u8s_length, ht]
  rfl
def rhM (x y : Nat) (l : List UInt8) (acc : List HuffM) : Res (List UInt8 × List HuffM) :=
  if l.length < 16 then .bad 152 else if (l.drop 16).length < sumM ((l.take 16).map (·.toNat)) then .bad 152
  else if huffOk ((l.take 16).map (·.toNat)) (((l.drop 16).take (sumM ((l.take 16).map (·.toNat)))).map (·.toNat)) = false then .bad 153
  else .ok ((l.drop 16).drop (sumM ((l.take 16).map (·.toNat))), acc ++ [⟨x, y, (l.take 16).map (·.toNat), ((l.drop 16).take (sumM ((l.take 16).map (·.toNat)))).map (·.toNat)⟩])
def HIn (base d s : Nat) (m : SegM) (w : World) (l : List UInt8) (acc : List HuffM) (u : World) : Prop :=
  ∃ (vh : Value) (ps : List (HuffM × Value)), ps.map (·.1) = acc ∧ StrAt 136 u d l ∧ Blk u s 31 (segC m nilS vh nilS nilS nilS) ∧ u.ownsRow base 87 19 vh ps.length (ps.flatMap huffC) ∧ (∀ p ∈ ps, VB u base p.2 p.1.vals) ∧ (List.map (fun p : HuffM × Value => p.2.ownBlock) ps).Nodup ∧ But2 base d s w u
def RHP (base d s : Nat) (m : SegM) (w : World) (r : Res (List UInt8 × List HuffM)) (e : Ending) (w' : World) : Prop :=
  match r with
  | .bad c => e = .returned (.int .i64 (c : Nat)) ∧ c ≠ 0 ∧ But2 base d s w w' ∧ w.heap.size ≤ w'.heap.size
  | .ok (l, acc) => e = .returned (.int .i64 0) ∧ HIn base d s m w l acc w'
set_option maxRecDepth 100000 in
set_option maxHeartbeats 32000000 in
theorem readHuffI (base d s first x y : Nat) (m : SegM) (l : List UInt8) (acc : List HuffM) (w : World) (hin : HIn base d s m w l acc w) (hd : d < base) (hs : s < base) (hb : base ≤ w.heap.size) (hf : first < 256) (hx : first / 16 = x) (hy : first % 16 = y) (_hx1 : x ≤ 1) (_hy3 : y ≤ 3) (hl : l.length ≤ 16777216) (hacc : acc.length ≤ 16777216) :
    Calls Tryz.prog 67 #[.pointer (some ⟨s, 0, none⟩), .pointer (some ⟨d, 0, none⟩), .int .u8 (first : Int)] w (RHP base d s m w (rhM x y l acc)) := by
  obtain ⟨vh, ps, hps, hD, hS, hown, hvals, hnd, hbut⟩ := hin
  have hpl : ps.length = acc.length := by rw [← hps, List.length_map]
  rw [hpl] at hown
  have g1 : (first : Int) / 16 = (x : Int) := by omega
  have gand : bits .and .u8 (first : Int) 15 = (y : Int) := by
    have h9 := u8_and_nat first 15 (by omega) (by omega)
    rw [show first &&& 15 = first % 16 from Nat.and_two_pow_sub_one_eq_mod first 4, hy] at h9
    simpa using h9
  have hbuild : (#[.int .u8 (x : Int), .int .u8 (y : Int), .int .u8 0, .int .u8 0, .int .u8 0, .int .u8 0, .int .u8 0, .int .u8 0, .int .u8 0, .int .u8 0, .int .u8 0, .int .u8 0, .int .u8 0, .int .u8 0, .int .u8 0, .int .u8 0, .int .u8 0, .int .u8 0, .slice none 0 0] : Array Value) = (huffF x y [] 0 nilS).toArray := rfl
  have hi1 : (Tryz.prog.info? 87).map (·.size) = some (#[.int .u8 (x : Int), .int .u8 (y : Int), .int .u8 0, .int .u8 0, .int .u8 0, .int .u8 0, .int .u8 0, .int .u8 0, .int .u8 0, .int .u8 0, .int .u8 0, .int .u8 0, .int .u8 0, .int .u8 0, .int .u8 0, .int .u8 0, .int .u8 0, .int .u8 0, .slice none 0 0] : Array Value).size := by
    exact size19
  have hi2 : (#[.int .u8 0, .int .u8 0, .int .u8 0, .int .u8 0, .int .u8 0, .int .u8 0, .int .u8 0, .int .u8 0, .int .u8 0, .int .u8 0, .int .u8 0, .int .u8 0, .int .u8 0, .int .u8 0, .int .u8 0, .int .u8 0, .int .u8 0, .int .u8 0, .slice none 0 0] : Array Value).size = (#[.int .u8 (x : Int), .int .u8 (y : Int), .int .u8 0, .int .u8 0, .int .u8 0, .int .u8 0, .int .u8 0, .int .u8 0, .int .u8 0, .int .u8 0, .int .u8 0, .int .u8 0, .int .u8 0, .int .u8 0, .int .u8 0, .int .u8 0, .int .u8 0, .int .u8 0, .slice none 0 0] : Array Value).size := rfl
  have hi3 : (#[.int .u8 (x : Int), .int .u8 (y : Int), .int .u8 0, .int .u8 0, .int .u8 0, .int .u8 0, .int .u8 0, .int .u8 0, .int .u8 0, .int .u8 0, .int .u8 0, .int .u8 0, .int .u8 0, .int .u8 0, .int .u8 0, .int .u8 0, .int .u8 0, .int .u8 0, .slice none 0 0] : Array Value).all (·.oneCell') = true := by
    rw [hbuild, Array.all_eq_true_iff_forall_mem]
    intro u hu
    exact huffF_one _ _ _ _ u (by simpa using hu)
  have HI := Lib.hid (And.intro hi1 (And.intro hi2 hi3)); clear hi1 hi2 hi3
  have HBU := Lib.hid hbuild; clear hbuild
  have HOWN := Lib.hid hown
  have HPS := Lib.hid (And.intro hps hpl); clear hps hpl
  have HND := Lib.hid hnd; clear hnd
  have hvb : ∀ p ∈ ps, ∀ g, p.2.ownBlock = some g → g < w.heap.size := fun p hp g e => by
    obtain ⟨g', e', _, h⟩ := (hvals p hp).lt
    rw [e'] at e
    injection e with e
    omega
  have HVB := Lib.hid hvb; clear hvb
  have hds : d ≠ s := hD.ne hS (by decide)
  go_enter Tryz.func67, Tryz.ntmps67
  go_upto_region 2 with (refine wpList_store_row rfl _ _ _ rfl _ _ rfl rfl _ _ (Blk.new w _ _) HI.out.1 HI.out.2.1 HI.out.2.2 ?_)
  rw [HBU.out]
  have hq2 : Blk ((w.alloc (.cells #[.int .u8 0, .int .u8 0, .int .u8 0, .int .u8 0, .int .u8 0, .int .u8 0, .int .u8 0, .int .u8 0, .int .u8 0, .int .u8 0, .int .u8 0, .int .u8 0, .int .u8 0, .int .u8 0, .int .u8 0, .int .u8 0, .int .u8 0, .int .u8 0, .slice none 0 0] 87)).setRow w.heap.size (huffF x y [] 0 nilS).toArray) w.heap.size 87 (huffF x y [] 0 nilS).toArray := (Blk.new w _ _).row
  have gr2 : Below w.heap.size w ((w.alloc (.cells #[.int .u8 0, .int .u8 0, .int .u8 0, .int .u8 0, .int .u8 0, .int .u8 0, .int .u8 0, .int .u8 0, .int .u8 0, .int .u8 0, .int .u8 0, .int .u8 0, .int .u8 0, .int .u8 0, .int .u8 0, .int .u8 0, .int .u8 0, .int .u8 0, .slice none 0 0] 87)).setRow w.heap.size (huffF x y [] 0 nilS).toArray) := grown_below (grown_row (grown_alloc (grown_of_below (Below.refl _ _) none) _) (.inl (Nat.le_refl _)) _)
  generalize ((w.alloc (.cells #[.int .u8 0, .int .u8 0, .int .u8 0, .int .u8 0, .int .u8 0, .int .u8 0, .int .u8 0, .int .u8 0, .int .u8 0, .int .u8 0, .int .u8 0, .int .u8 0, .int .u8 0, .int .u8 0, .int .u8 0, .int .u8 0, .int .u8 0, .int .u8 0, .slice none 0 0] 87)).setRow w.heap.size (huffF x y [] 0 nilS).toArray) = w2 at hq2 gr2 ⊢
  have hD2 := hD.kept gr2
  have hS2 := hS.kept gr2
  have hown2 := own_keep hown (w' := w2) (fun g hg => gr2.block g (hown.lt g hg).2)
  have hv2 : ∀ p ∈ ps, VB w2 base p.2 p.1.vals := fun p hp => (hvals p hp).keep fun g hg => gr2.block g (HVB.out p hp g hg)
  have hbut2 : But2 base d s w w2 := But2.of_below (gr2.mono hb)
  have hq0 : base ≤ w.heap.size := hb
  generalize hqq : w.heap.size = q at hq2 hq0 ⊢
  have HQQ := Lib.hid hqq; clear hqq
  have HV2 := Lib.hid hv2; clear hv2
  clear hD hS hown hvals
  go_wp2_with fail
  refine (take_any d 16 l w2 hD2 (by decide) (by omega)).mono ?_
  rintro e w3 htk
  unfold TakeP at htk
  by_cases hlt : l.length < 16
  · rw [if_pos hlt] at htk
    obtain ⟨rfl, rfl⟩ := htk
    have hres : rhM x y l acc = .bad 152 := by unfold rhM; rw [if_pos (by omega)]
    have HR := Lib.hid hres; clear hres
    go_wp2_with fail
    go_ret
    rw [HR.out]
    exact ⟨rfl, by decide, hbut2, gr2.size⟩
  rw [if_neg hlt] at htk
  obtain ⟨rfl, rfl⟩ := htk
  have hq3 := hq2.far (p := ⟨d, 0, none⟩) (by show q ≠ d; omega) (.string (Bs (l.drop 16)))
  have hD3 := StrAt.set (m := l.drop 16) hD2
  have hS3 := hS2.far (p := ⟨d, 0, none⟩) (by show s ≠ d; omega) (.string (Bs (l.drop 16)))
  have hown3 := own_keep hown2 (w' := w2.setCell ⟨d, 0, none⟩ (.string (Bs (l.drop 16)))) (fun g hg => Below.heap_setCell w2 _ _ g (by have := (hown2.lt g hg).1; show g ≠ d; omega))
  have hbut3 : But2 base d s w (w2.setCell ⟨d, 0, none⟩ (.string (Bs (l.drop 16)))) := hbut2.trans (But2.of_grown (grown_one _) (fun g e => .inl (by injection e with e; exact e.symm)) (by have := gr2.size; have := HQQ.out; omega))
  have hz3 : base ≤ (w2.setCell ⟨d, 0, none⟩ (.string (Bs (l.drop 16)))).heap.size := by have := gr2.size; have := HQQ.out; simp; omega
  have hv3 : ∀ p ∈ ps, VB (w2.setCell ⟨d, 0, none⟩ (.string (Bs (l.drop 16)))) base p.2 p.1.vals := fun p hp => (HV2.out p hp).keep fun g hg => Below.heap_setCell w2 _ _ g (by obtain ⟨g', e', h9, _⟩ := (HV2.out p hp).lt; rw [e'] at hg; injection hg with hg; show g ≠ d; omega)
  generalize w2.setCell ⟨d, 0, none⟩ (.string (Bs (l.drop 16))) = w3 at hq3 hD3 hS3 hown3 hbut3 hz3 hv3 ⊢
  clear hq2 hD2 hS2 hown2 hbut2 gr2 HV2
  clear w2
  have HV3 := Lib.hid hv3; clear hv3
  have hlen : 16 ≤ l.length := by omega
  have hctl : ((l.take 16).map (·.toNat)).length = 16 := by rw [List.length_map, List.length_take]; omega
  have hclt : ∀ x ∈ (l.take 16).map (·.toNat), x < 256 := fun x hx => by
    rw [List.mem_map] at hx
    obtain ⟨u, _, rfl⟩ := hx
    exact u.toNat_lt
  have hcget : ∀ k, k < 16 → ((l.take 16).map (·.toNat)).getD k 0 = nb l k := fun k hk => by
    unfold nb
    rw [List.getD_eq_getElem?_getD, List.getElem?_map, List.getElem?_take, if_pos hk, List.getD_eq_getElem?_getD, List.getElem?_eq_getElem (by omega)]
    rfl
  obtain ⟨cnt, hcnt⟩ : ∃ c, c = (l.take 16).map (·.toNat) := ⟨_, rfl⟩
  rw [← hcnt] at hctl hclt hcget
  have HCN := Lib.hid (And.intro hcnt (And.intro hctl (And.intro hclt hcget))); clear hcnt hctl hclt hcget
  have hL : (Bs (l.take 16)).size = 16 := by rw [Bs_size, List.length_take]; omega
  have hbyte : ∀ k, k < 16 → ∀ h : k < (Bs (l.take 16)).size, ((Bs (l.take 16))[k]).toNat = nb l k := fun k hk h => by
    rw [Bs_get]
    unfold nb
    rw [List.getD_eq_getElem?_getD, List.getD_eq_getElem?_getD, List.getElem?_take, if_pos hk]
  generalize Bs (l.take 16) = LB at hL hbyte ⊢
  have HBY := Lib.hid hbyte; clear hbyte
  go_upto_region 7 with fail
  go_loopw [24, 10] (fun i sm wr => ∃ k : Nat, k ≤ 16 ∧ i = .int .i64 k ∧ sm = .int .i64 (sTo cnt k : Nat) ∧ Blk wr q 87 (huffF x y cnt k nilS).toArray ∧ w3.grownBy wr (some q)) (fun i _ _ => 16 - (intOf i).toNat)
  case atStart => exact ⟨0, by omega, rfl, rfl, hq3, grown_of_below (Below.refl _ _) _⟩
  clear hq3
  case round =>
    obtain ⟨k, hk, rfl, rfl, hB, hG⟩ := hrel
    have hsle := sTo_le cnt HCN.out.2.2.1 k
    by_cases hlt : k < 16
    · have hk0 : 0 ≤ (k : Int) := by omega
      have hk16 : (k : Int) < 16 := by omega
      have hby := HBY.out k hlt
      have hnb := nb_lt l k
      have hsn : sTo cnt (k + 1) = sTo cnt k + nb l k := by show sTo cnt k + cnt.getD k 0 = _; rw [HCN.out.2.2.2 k hlt]
      have hset := huffF_set x y cnt k nilS hlt HCN.out.2.1
      rw [HCN.out.2.2.2 k hlt] at hset
      generalize nb l k = B at hby hnb hsn hset
      have HSN := Lib.hid (And.intro hsn hset); clear hsn hset
      have hcell : wr.cell? ⟨q, 2 + k, none⟩ = some (.int .u8 0) := by rw [hB.cell, huffF_get x y cnt k nilS hlt HCN.out.2.1]
      have hfz : wr.frozen? ⟨q, 2 + k, none⟩ = false := hB.frozen _
      obtain ⟨sm, hsm⟩ : ∃ sm, sTo cnt k = sm := ⟨_, rfl⟩
      rw [hsm] at hsle ⊢
      have HSM := Lib.hid hsm; clear hsm
      have hw1 : IntKind.i64.wrap ((sm : Int) + (B : Int)) = (sm : Int) + (B : Int) := IntWalk.i64_in _ (by omega)
      have hB1 := hB.set (2 + k) (.int .u8 (B : Int))
      rw [List.setIfInBounds_toArray, HSN.out.2] at hB1
      have hG1 := grown_set hG (2 + k) (.int .u8 (B : Int))
      have HB1 := Lib.hid (And.intro hB1 hG1); clear hB1 hG1
      go_wp2_with fail
      go_roundw
      case rel => exact ⟨k + 1, by omega, by go_num, by rw [HSN.out.1, HSM.out]; go_num, HB1.out.1, HB1.out.2⟩
      case measure => simp [intOf]; omega
    · obtain rfl : k = 16 := by omega
      have hown4 := own_grown hown3 hG (.inr fun e => by have := (HOWN.out.lt q e).2; have := HQQ.out; omega)
      have hD4 := hD3.grown hG (fun e => by injection e; omega)
      have hS4 := hS3.grown hG (fun e => by injection e; omega)
      have hv4 : ∀ p ∈ ps, VB wr base p.2 p.1.vals := fun p hp => (HV3.out p hp).keep fun g hg => hG.block g (by obtain ⟨g', e', _, h9⟩ := (HV3.out p hp).lt; rw [e'] at hg; injection hg; omega) (fun e => by injection e with e; have := HVB.out p hp g hg; have := HQQ.out; omega)
      have hbut4 := hbut3.trans (But2.of_grown hG (fun g e => .inr (.inr (by injection e; omega))) hz3)
      have hz4 : base ≤ wr.heap.size := Nat.le_trans hz3 hG.size
      clear hD3 hS3 hown3 hbut3 hz3 hG HBY hL HV3
      have HV4 := Lib.hid hv4; clear hv4
      rw [show sTo cnt 16 = sumM cnt from rfl] at hsle ⊢
      rw [huffF_all x y cnt [] nilS HCN.out.2.1] at hB
      generalize hsum : sumM cnt = sum at hsle ⊢
      have HSUM := Lib.hid hsum; clear hsum
      go_wp2_with fail
      refine (take_any d sum (l.drop 16) wr hD4 (by omega) (by rw [List.length_drop]; omega)).mono ?_
      rintro e w5 htk
      unfold TakeP at htk
      by_cases hlt2 : (l.drop 16).length < sum
      · rw [if_pos hlt2] at htk
        obtain ⟨rfl, rfl⟩ := htk
        have hres : rhM x y l acc = .bad 152 := by
          unfold rhM
          rw [if_neg (by omega), ← HCN.out.1, HSUM.out, if_pos hlt2]
        have HR := Lib.hid hres; clear hres
        go_wp2_with fail
        go_ret
        rw [HR.out]
        exact ⟨rfl, by decide, hbut4, hbut4.size⟩
      rw [if_neg hlt2] at htk
      obtain ⟨rfl, rfl⟩ := htk
      generalize hr1 : l.drop 16 = r1 at hD4 hlt2 ⊢
      have HR1 := Lib.hid hr1; clear hr1
      have hr1l : r1.length ≤ 16777216 := by rw [← HR1.out, List.length_drop]; omega
      have hq5 := hB.far (p := ⟨d, 0, none⟩) (by show q ≠ d; omega) (.string (Bs (r1.drop sum)))
      have hD5 := StrAt.set (m := r1.drop sum) hD4
      have hS5 := hS4.far (p := ⟨d, 0, none⟩) (by show s ≠ d; omega) (.string (Bs (r1.drop sum)))
      have hown5 := own_keep hown4 (w' := wr.setCell ⟨d, 0, none⟩ (.string (Bs (r1.drop sum)))) (fun g hg => Below.heap_setCell wr _ _ g (by have := (hown4.lt g hg).1; show g ≠ d; omega))
      have hbut5 : But2 base d s w (wr.setCell ⟨d, 0, none⟩ (.string (Bs (r1.drop sum)))) := hbut4.trans (But2.of_grown (grown_one _) (fun g e => .inl (by injection e with e; exact e.symm)) hz4)
      have hz5 : base ≤ (wr.setCell ⟨d, 0, none⟩ (.string (Bs (r1.drop sum)))).heap.size := by simp; omega
      have hv5 : ∀ p ∈ ps, VB (wr.setCell ⟨d, 0, none⟩ (.string (Bs (r1.drop sum)))) base p.2 p.1.vals := fun p hp => (HV4.out p hp).keep fun g hg => Below.heap_setCell wr _ _ g (by obtain ⟨g', e', h9, _⟩ := (HV4.out p hp).lt; rw [e'] at hg; injection hg with hg; show g ≠ d; omega)
      have hqz5 : q < (wr.setCell ⟨d, 0, none⟩ (.string (Bs (r1.drop sum)))).heap.size := hq5.lt
      generalize wr.setCell ⟨d, 0, none⟩ (.string (Bs (r1.drop sum))) = w5 at hq5 hD5 hS5 hown5 hbut5 hz5 hv5 hqz5 ⊢
      clear hB hD4 hS4 hown4 hbut4 hz4 HV4
      have HV5 := Lib.hid hv5; clear hv5
      -- the values, converted
      have hvl : (r1.take sum).length = sum := by rw [List.length_take]; omega
      generalize hva : r1.take sum = va at hvl ⊢
      have HVA := Lib.hid hva; clear hva
      have hcv := Go.Lib.run_convert_string_bytes (P := Tryz.prog) w5 9 29 5 (Bs va) Tryz.underlying9 Tryz.underlying29 Tryz.underlying5
      have hVN := VB.new w5 base va hz5
      have hbb : Below w5.heap.size w5 (Go.Lib.bytesWorld w5 5 (Bs va)) := ⟨rfl, rfl, rfl, by rw [Go.Lib.bytesWorld_size]; omega, fun i hi => Go.Lib.bytesWorld_at_old w5 _ _ i hi⟩
      have hzz := Go.Lib.bytesWorld_size w5 5 (Bs va)
      rw [Bs_size, hvl] at hcv
      rw [hvl] at hVN
      generalize Go.Lib.bytesWorld w5 5 (Bs va) = w6 at hcv hVN hbb hzz
      generalize grownCap w5 sum 0 5 = cap at hcv hVN
      have hq6 := hq5.kept hbb
      have hD6 := hD5.kept hbb
      have hS6 := hS5.kept hbb
      have hown6 := own_keep hown5 (w' := w6) (fun g hg => hbb.block g (hown5.lt g hg).2)
      have hv6 : ∀ p ∈ ps, VB w6 base p.2 p.1.vals := fun p hp => (HV5.out p hp).keep fun g hg => hbb.block g (by obtain ⟨g', e', _, h9⟩ := (HV5.out p hp).lt; rw [e'] at hg; injection hg; omega)
      have hfar : ∀ p ∈ ps, p.2.ownBlock ≠ some w5.heap.size := fun p hp e => by obtain ⟨g', e', _, h9⟩ := (HV5.out p hp).lt; rw [e'] at e; injection e; omega
      have hbut6 := hbut5.trans (But2.of_below (hbb.mono hz5))
      have hz6 : base ≤ w6.heap.size := by omega
      generalize hgv : w5.heap.size = gv at hcv hVN hfar hqz5
      have hc18 : w6.cell? ⟨q, 18, none⟩ = some nilS := by rw [hq6.cell, huffC_val HCN.out.2.1]
      have hf18 : w6.frozen? ⟨q, 18, none⟩ = false := hq6.frozen _
      have HV6 := Lib.hid (And.intro hv6 hfar); clear hv6 hfar
      have HVN := Lib.hid hVN; clear hVN
      clear hq5 hD5 hS5 hown5 hbut5 hz5 HV5 hbb
      go_upto_region 16 with fail
      obtain ⟨vn, hvn⟩ : ∃ vn, vn = Value.slice (some ⟨gv, 0, none⟩) sum cap := ⟨_, rfl⟩
      have hq7 := hq6.set 18 (.slice (some ⟨gv, 0, none⟩) sum cap)
      rw [List.setIfInBounds_toArray, huffC_set x y cnt [] (nats va) nilS _ HCN.out.2.1] at hq7
      have hgq : gv ≠ q := by omega
      have hD7 := hD6.far (p := ⟨q, 18, none⟩) (by show d ≠ q; omega) (.slice (some ⟨gv, 0, none⟩) sum cap)
      have hS7 := hS6.far (p := ⟨q, 18, none⟩) (by show s ≠ q; omega) (.slice (some ⟨gv, 0, none⟩) sum cap)
      have hown7 := own_keep hown6 (w' := w6.setCell ⟨q, 18, none⟩ (.slice (some ⟨gv, 0, none⟩) sum cap)) (fun g hg => Below.heap_setCell w6 _ _ g (by have := (HOWN.out.lt g hg).2; have := HQQ.out; show g ≠ q; omega))
      have hv7 : ∀ p ∈ ps, VB (w6.setCell ⟨q, 18, none⟩ (.slice (some ⟨gv, 0, none⟩) sum cap)) base p.2 p.1.vals := fun p hp => (HV6.out.1 p hp).keep fun g hg => Below.heap_setCell w6 _ _ g (by have := HVB.out p hp g hg; have := HQQ.out; show g ≠ q; omega)
      have hvn7 : VB (w6.setCell ⟨q, 18, none⟩ (.slice (some ⟨gv, 0, none⟩) sum cap)) base (.slice (some ⟨gv, 0, none⟩) sum cap) (nats va) := HVN.out.keep fun g hg => Below.heap_setCell w6 _ _ g (by injection hg with hg; show g ≠ q; exact hg ▸ hgq)
      have hbut7 : But2 base d s w (w6.setCell ⟨q, 18, none⟩ (.slice (some ⟨gv, 0, none⟩) sum cap)) := hbut6.trans (But2.of_grown (w5_one w6 q _) (fun g e => .inr (.inr (by injection e; omega))) hz6)
      have hz7 : base ≤ (w6.setCell ⟨q, 18, none⟩ (.slice (some ⟨gv, 0, none⟩) sum cap)).heap.size := by simp; omega
      generalize w6.setCell ⟨q, 18, none⟩ (.slice (some ⟨gv, 0, none⟩) sum cap) = w7 at hq7 hD7 hS7 hown7 hv7 hvn7 hbut7 hz7 ⊢
      clear hq6 hD6 hS6 hown6 hbut6 hz6 hc18 hf18 hcv hzz HVN hvn
      clear vn
      have hnl : (nats va).length = sum := by unfold nats; rw [List.length_map, hvl]
      have hvlt : ∀ x ∈ nats va, x < 256 := fun x hx => by
        unfold nats at hx
        rw [List.mem_map] at hx
        obtain ⟨u, _, rfl⟩ := hx
        exact u.toNat_lt
      have hsl7 : Sl w7 (some ⟨gv, 0, none⟩) sum (u8s (nats va)) := by
        obtain ⟨A9, c9, e9, h9, _⟩ := hvn7.sl
        rw [hnl] at e9 h9
        injection e9 with e9 _ _
        rw [e9]
        exact h9
      have HV7 := Lib.hid (And.intro hv7 (And.intro hvn7 HV6.out.2)); clear hv7 hvn7 HV6
      have HNL := Lib.hid (And.intro hnl hvlt); clear hnl hvlt
      have HSL := Lib.hid hsl7; clear hsl7
      have HRG := Lib.hid (Blk.range hq7 2 _ (huffC_spec _))
      have HS17 := Lib.hid (show (Tryz.prog.info? 85).map (·.size) = some (specC cnt (.slice (some ⟨gv, 0, none⟩) sum cap)).length by
        unfold specC
        rw [List.length_append, u8s_length, HCN.out.2.1]
        exact size17)
      go_upto_region 16 with fail
      go_wp2_with (refine wpList_load_mid rfl _ _ rfl q 2 rfl _ _ HRG.out Tryz.underlying85 rfl HS17.out ?_)
      refine (check_any cnt (nats va) (some ⟨gv, 0, none⟩) sum cap w7 HCN.out.2.1 HCN.out.2.2.1 HSL.out HNL.out.2 (by omega)).mono ?_
      rintro e w8 ⟨c, rfl, hcz, hb8⟩
      clear HRG HS17 HSL
      have hq8 := hq7.kept hb8
      have hD8 := hD7.kept hb8
      have hS8 := hS7.kept hb8
      have hown8 := own_keep hown7 (w' := w8) (fun g hg => hb8.block g (hown7.lt g hg).2)
      have hbut8 := hbut7.trans (But2.of_below (hb8.mono hz7))
      have hz8 : base ≤ w8.heap.size := Nat.le_trans hz7 hb8.size
      have hv8 : ∀ p ∈ ps, VB w8 base p.2 p.1.vals := fun p hp => (HV7.out.1 p hp).keep fun g hg => hb8.block g (by obtain ⟨g', e', _, h9⟩ := (HV7.out.1 p hp).lt; rw [e'] at hg; injection hg; omega)
      have hvn8 : VB w8 base (.slice (some ⟨gv, 0, none⟩) sum cap) (nats va) := HV7.out.2.1.keep fun g hg => hb8.block g (by obtain ⟨g', e', _, h9⟩ := HV7.out.2.1.lt; rw [e'] at hg; injection hg; omega)
      have HV8 := Lib.hid (And.intro hv8 (And.intro hvn8 HV7.out.2.2)); clear hv8 hvn8 HV7
      have hrh : rhM x y l acc = if huffOk cnt (nats va) = false then .bad 153 else .ok (r1.drop sum, acc ++ [⟨x, y, cnt, nats va⟩]) := by
        unfold rhM
        rw [if_neg (by omega), ← HCN.out.1, HSUM.out, HR1.out, if_neg hlt2, HVA.out]
        rfl
      have HRH := Lib.hid hrh; clear hrh
      by_cases hc0 : c = 0
      case neg =>
        have hres : rhM x y l acc = .bad 153 := by
          rw [HRH.out, if_pos]
          cases hh : huffOk cnt (nats va) with
          | false => rfl
          | true => exact absurd (hcz.2 hh) hc0
        have HR := Lib.hid hres; clear hres
        have hcb : ((c : Int) != 0) = true := by simpa using hc0
        have hcb2 : ¬ ((c : Int) = 0) := by omega
        go_wp2_with fail
        go_ret
        rw [HR.out]
        exact ⟨rfl, by decide, hbut8, hbut8.size⟩
      subst hc0
      have hres : rhM x y l acc = .ok (r1.drop sum, acc ++ [⟨x, y, cnt, nats va⟩]) := by rw [HRH.out, if_neg (by rw [hcz.1 rfl]; decide)]
      have HR := Lib.hid hres; clear hres HRH hcz
      clear hq7 hD7 hS7 hown7 hbut7 hz7 hb8
      obtain ⟨iq, iq1, iq2, iq3, iq4⟩ := info_parts infoH
      obtain ⟨zqv, hzqv⟩ : ∃ z, z = Value.agg (huffF 0 0 [] 0 nilS).toArray := ⟨_, rfl⟩
      rw [← hzqv] at iq2
      have iq5 : zqv.cells.size = 19 := by rw [hzqv]; rfl
      clear hzqv
      have IQ := Lib.hid (And.intro iq1 (And.intro iq2 (And.intro iq3 (And.intro iq4 iq5)))); clear iq1 iq2 iq3 iq4 iq5
      have hC : (huffC (⟨x, y, cnt, nats va⟩, Value.slice (some ⟨gv, 0, none⟩) sum cap)).length = 19 := huffC_length HCN.out.2.1
      have hC1 := huffC_one (⟨x, y, cnt, nats va⟩, Value.slice (some ⟨gv, 0, none⟩) sum cap) rfl
      have HC := Lib.hid (And.intro hC hC1); clear hC hC1
      obtain ⟨pn, hpn⟩ : ∃ pn : HuffM × Value, pn = (⟨x, y, cnt, nats va⟩, Value.slice (some ⟨gv, 0, none⟩) sum cap) := ⟨_, rfl⟩
      rw [← hpn] at hq8 HC
      have hvw : ∀ p ∈ ps ++ [pn], VB w8 base p.2 p.1.vals := fun p hp => by
        rcases List.mem_append.1 hp with h | h
        · exact HV8.out.1 p h
        · obtain rfl : p = pn := by simpa using h
          rw [hpn]
          exact HV8.out.2.1
      have hnw : (List.map (fun p : HuffM × Value => p.2.ownBlock) (ps ++ [pn])).Nodup := by
        rw [List.map_append, List.nodup_append]
        refine ⟨HND.out, by simp, fun a ha b hb => ?_⟩
        obtain ⟨p, hp, rfl⟩ := List.mem_map.1 ha
        obtain rfl : b = some gv := by simpa [hpn, Value.ownBlock] using hb
        exact HV8.out.2.2 p hp
      have hmw : (ps ++ [pn]).map (·.1) = acc ++ [⟨x, y, cnt, nats va⟩] := by rw [List.map_append, HPS.out.1, hpn]; rfl
      have hpl2 := HPS.out.2
      have HW := Lib.hid (And.intro hvw (And.intro hnw hmw)); clear hvw hnw hmw HV8
      have HPN := Lib.hid hpn; clear hpn
      generalize hcs : huffC pn = cs at hq8 HC
      have HCS := Lib.hid hcs; clear hcs
      have hs4 : w8.cell? ⟨s, 4, none⟩ = some vh := by rw [hS8.cell]; rfl
      have hI : w8.cell? ⟨s, 4, none⟩ = some vh ∧ Blk w8 q 87 cs.toArray := ⟨hs4, hq8⟩
      go_upto_region 18 with fail
      refine LexZ.wp_region [] 10 rfl _ rfl rfl (fun u => u.cell? ⟨s, 4, none⟩ = some vh ∧ Blk u q 87 cs.toArray) (fun u n h => h) hI (by kernel_rfl) ?_
      refine LexZ.take 0 (by rfl) (by kernel_rfl) (Lex4.free_ (v := ?_) (by rfl) (by rfl) (fun u => ?_) ?_); rotate_left; (go_simp; try with_reducible rfl); simp only [Act.put, zA, zB, zC]
      refine LexZ.take 1 (by rfl) (by kernel_rfl) (Lex4.free_ (v := ?_) (by rfl) (by rfl) (fun u => ?_) ?_); rotate_left; (go_simp; try with_reducible rfl); simp only [Act.put, zA, zB, zC]
      refine LexZ.take 2 (by rfl) (by kernel_rfl) (Lex4.free_ (v := ?_) (by rfl) (by rfl) (fun u => ?_) ?_); rotate_left; (go_simp; try with_reducible rfl); simp only [Act.put, zA, zB, zC]
      refine LexZ.take 3 (by rfl) (by kernel_rfl) (Lex4.free_ (v := ?_) (by rfl) (by rfl) (fun u => ?_) ?_); rotate_left; (go_simp; try with_reducible rfl); simp only [Act.put, zA, zB, zC]
      refine LexZ.take 4 (by rfl) (by kernel_rfl) (Lex4.load_ (v := ?_) (by rfl) (by rfl) (fun u hu => ?_) ?_); rotate_left; (obtain ⟨hu0, hu1⟩ := hu; go_simp; try with_reducible rfl); simp only [Act.put, zA, zB, zC]
      refine LexZ.take 5 (by rfl) (by kernel_rfl) (Lex4.load_ (v := .agg cs.toArray) (by rfl) (by rfl) (fun u hu => val_load_mid 87 (.tmp 7) rfl q 0 rfl cs _ (hu.2.range 0 cs (by simp)) Tryz.underlying87 rfl (by rw [HC.out.1]; exact size19)) ?_); simp only [Act.put, zA, zB, zC]
      have hB5 : Blk w8.drew q 87 cs.toArray := hq8
      have hS5 : Blk w8.drew s 31 (segC m nilS vh nilS nilS nilS) := hS8
      have hD5 : StrAt 136 w8.drew d (r1.drop sum) := hD8
      have ho5 : w8.drew.ownsRow base 87 19 vh acc.length (ps.flatMap huffC) := hown8
      have hb5 : But2 base d s w w8.drew := hbut8.drew 1
      have hz5 : base ≤ w8.drew.heap.size := hz8
      have hv5 : ∀ p ∈ ps ++ [pn], VB w8.drew base p.2 p.1.vals := HW.out.1
      have HV5 := Lib.hid hv5
      clear hq8 hS8 hD8 hown8 hbut8 hz8 hI hs4 hv5
      generalize w8.drew = W0 at hB5 hS5 hD5 ho5 hb5 hz5 HV5 ⊢
      refine LexZ.take 6 (by rfl) (by kernel_rfl) (Lex4.eff_ (by rfl) (by rfl) (fun n1 K1 hK1 => ?_))
      have hB6 : Blk (W0.drewN n1) q 87 cs.toArray := hB5
      have hS6 : Blk (W0.drewN n1) s 31 (segC m nilS vh nilS nilS nilS) := hS5
      have hD6 : StrAt 136 (W0.drewN n1) d (r1.drop sum) := hD5
      have ho6 : (W0.drewN n1).ownsRow base 87 19 vh acc.length (ps.flatMap huffC) := ho5
      have hb6 : But2 base d s w (W0.drewN n1) := hb5.drew n1
      have hz6 : base ≤ (W0.drewN n1).heap.size := hz5
      have HV6 : Hid (∀ p ∈ ps ++ [pn], VB (W0.drewN n1) base p.2 p.1.vals) := Lib.hid HV5.out
      clear hB5 hS5 hD5 ho5 hb5 hz5 HV5
      generalize W0.drewN n1 = W1 at hB6 hS6 hD6 ho6 hb6 hz6 HV6 ⊢
      refine wp_buildOne 24 87 (.tmp 62) rfl cs.toArray rfl iq zqv 19 Tryz.underlying24 IQ.out.1 IQ.out.2.1 IQ.out.2.2.1 (by rw [List.size_toArray]; exact HC.out.1) (by decide) (by decide) ?_
      have hB7 := hB6.alloc (.cells cs.toArray 87)
      have hS7 := hS6.alloc (.cells cs.toArray 87)
      have hD7 := hD6.alloc (.cells cs.toArray 87)
      have ho7 := ho6.alloc (.cells cs.toArray 87)
      have hb7 : But2 base d s w (W1.alloc (.cells cs.toArray 87)) := hb6.trans (But2.of_below ((Below.refl _ _).alloc hz6 _))
      have hn7 := Blk.new W1 87 cs.toArray
      have hz7 : base ≤ (W1.alloc (.cells cs.toArray 87)).heap.size := by simp; omega
      have hv7 : ∀ p ∈ ps ++ [pn], VB (W1.alloc (.cells cs.toArray 87)) base p.2 p.1.vals := fun p hp => (HV6.out p hp).keep fun g hg => Below.heap_alloc W1 _ g (by obtain ⟨g', e', _, h9⟩ := (HV6.out p hp).lt; rw [e'] at hg; injection hg; omega)
      have HV7 := Lib.hid hv7; clear hv7
      refine hK1 _ _ ⟨by rw [hS7.cell]; rfl, hB7⟩ ?_
      clear hB6 hS6 hD6 ho6 hb6 HV6 hK1 K1
      generalize hbn : W1.heap.size = bn at hn7 hz6 ⊢
      generalize W1.alloc (.cells cs.toArray 87) = W2 at hB7 hS7 hD7 ho7 hb7 hn7 hz7 HV7 ⊢
      clear hbn
      try simp only [Act.put, zA, zB, zC]
      refine LexZ.take 7 (by rfl) (by kernel_rfl) (Lex4.eff_ (by rfl) (by rfl) (fun n2 K2 hK2 => ?_))
      have hB8 : Blk (W2.drewN n2) q 87 cs.toArray := hB7
      have hS8 : Blk (W2.drewN n2) s 31 (segC m nilS vh nilS nilS nilS) := hS7
      have hD8 : StrAt 136 (W2.drewN n2) d (r1.drop sum) := hD7
      have ho8 : (W2.drewN n2).ownsRow base 87 19 vh acc.length (ps.flatMap huffC) := ho7
      have hb8 : But2 base d s w (W2.drewN n2) := hb7.drew n2
      have hn8 : Blk (W2.drewN n2) bn 87 cs.toArray := hn7
      have hz8 : base ≤ (W2.drewN n2).heap.size := hz7
      have HV8 : Hid (∀ p ∈ ps ++ [pn], VB (W2.drewN n2) base p.2 p.1.vals) := Lib.hid HV7.out
      clear hB7 hS7 hD7 ho7 hb7 hn7 hz7 HV7
      generalize W2.drewN n2 = W3 at hB8 hS8 hD8 ho8 hb8 hn8 hz8 HV8 ⊢
      refine wp_append_lies W3 (.tmp 61) (.tmp 63) 24 rfl base 87 iq zqv 19 48 Tryz.underlying24 IQ.out.1 IQ.out.2.1 IQ.out.2.2.1 IQ.out.2.2.2.1 IQ.out.2.2.2.2 (by decide) vh acc.length (ps.flatMap huffC) (by rfl) ho8 ⟨bn, 0, none⟩ 1 1 cs (by rfl) (by rw [HC.out.1]) (fun i u hu => by rw [Addr.add_mid, hn8.cell, Nat.zero_add]; simpa using hu) HC.out.2 (by decide) (by unfold maxLen; omega) (by omega) hz8 W3.heap.size rfl ?_
      intro gg cap2 W4 ho9 hgr9 hat9 hlt9
      have hne : ∀ g, vh.ownBlock = some g → base ≤ g := fun g e => (ho8.lt g e).1
      have hS9 := hS8.grown hgr9 (fun e => by have := hne s e.symm; omega)
      have hD9 := hD8.grown hgr9 (fun e => by have := hne d e.symm; omega)
      have hb9 := hb8.trans (But2.of_grown hgr9 (fun g e => .inr (.inr (hne g e))) hz8)
      have hB9 := hB8.grown hgr9 (fun e => by have h1 := (HOWN.out.lt q e.symm).2; have := HQQ.out; omega)
      have hv9 : ∀ p ∈ ps ++ [pn], VB W4 base p.2 p.1.vals := fun p hp => (HV8.out p hp).keep fun g hg => hgr9.block g (by obtain ⟨g', e', _, h9⟩ := (HV8.out p hp).lt; rw [e'] at hg; injection hg; omega) (fun e => vb_row (HV8.out p hp) ho8 hg e.symm)
      have HV9 := Lib.hid hv9; clear hv9
      refine hK2 _ _ ⟨by rw [hS9.cell]; rfl, hB9⟩ ?_
      clear hK2 K2 hS8 hD8 ho8 hb8 hn8 hB8 HV8
      try simp only [Act.put, zA, zB, zC]
      refine LexZ.take 8 (by rfl) (by kernel_rfl) (Lex4.free_ (v := ?_) (by rfl) (by rfl) (fun u => ?_) ?_); rotate_left; (go_simp; try with_reducible rfl); simp only [Act.put, zA, zB, zC]
      refine LexZ.take 9 (by rfl) (by kernel_rfl) (Lex4.free_ (v := ?_) (by rfl) (by rfl) (fun u => ?_) ?_); rotate_left; (go_simp; try with_reducible rfl); simp only [Act.put, zA, zB, zC]
      refine LexZ.done (by kernel_rfl) (by kernel_rfl) (fun n9 => ?_)
      have hS10 : Blk (W4.drewN n9) s 31 (segC m nilS vh nilS nilS nilS) := hS9
      have hD10 : StrAt 136 (W4.drewN n9) d (r1.drop sum) := hD9
      have hb10 := hb9.drew n9
      have hz10 : W3.heap.size ≤ (W4.drewN n9).heap.size := hgr9.size
      have hlt10 : gg < (W4.drewN n9).heap.size := hlt9
      have ho10 : (W4.drewN n9).ownsRow base 87 19 (.slice (some ⟨gg, 0, none⟩) (acc.length + 1) cap2) (acc.length + 1) (ps.flatMap huffC ++ cs) := ho9
      have HV10 : Hid (∀ p ∈ ps ++ [pn], VB (W4.drewN n9) base p.2 p.1.vals) := Lib.hid HV9.out
      clear hS9 hD9 ho9 hb9 hgr9 hat9 hlt9 hB9 HV9
      generalize W4.drewN n9 = W5 at hS10 hD10 ho10 hb10 hz10 hlt10 HV10 ⊢
      have hc10 : W5.cell? ⟨s, 4, none⟩ = some vh := by rw [hS10.cell]; rfl
      have hf10 : W5.frozen? ⟨s, 4, none⟩ = false := hS10.frozen _
      have hS11 := hS10.set 4 (.slice (some ⟨gg, 0, none⟩) (acc.length + 1) cap2)
      have hD11 := hD10.far (p := ⟨s, 4, none⟩) hds (.slice (some ⟨gg, 0, none⟩) (acc.length + 1) cap2)
      have ho11 := own_keep ho10 (w' := W5.setCell ⟨s, 4, none⟩ (.slice (some ⟨gg, 0, none⟩) (acc.length + 1) cap2)) (fun g hg => Below.heap_setCell W5 _ _ g (by have := (ho10.lt g hg).1; show g ≠ s; omega))
      have hb11 : But2 base d s w (W5.setCell ⟨s, 4, none⟩ (.slice (some ⟨gg, 0, none⟩) (acc.length + 1) cap2)) := hb10.trans (But2.of_grown (w5_one W5 s _) (fun g e => .inr (.inl (by injection e with e; exact e.symm))) (by omega))
      have hv11 : ∀ p ∈ ps ++ [pn], VB (W5.setCell ⟨s, 4, none⟩ (.slice (some ⟨gg, 0, none⟩) (acc.length + 1) cap2)) base p.2 p.1.vals := fun p hp => (HV10.out p hp).keep fun g hg => Below.heap_setCell W5 _ _ g (by obtain ⟨g', e', h9, _⟩ := (HV10.out p hp).lt; rw [e'] at hg; injection hg with hg; show g ≠ s; omega)
      have HF := Lib.hid (And.intro hS11 (And.intro hD11 (And.intro ho11 (And.intro hb11 hv11)))); clear hS11 hD11 ho11 hb11 hv11 hS10 hD10 ho10 hb10 HV10
      go_simp
      go_wp2_with fail
      go_ret
      rw [HR.out]
      refine ⟨rfl, _, ps ++ [pn], HW.out.2.2, HF.out.2.1, HF.out.1, ?_, HF.out.2.2.2.2, HW.out.2.1, HF.out.2.2.2.1⟩
      rw [List.length_append, List.flatMap_append, hpl2, show [pn].flatMap huffC = cs by rw [← HCS.out]; simp]
      exact HF.out.2.2.1
end Go.Proofs.YtjfgfoeenajneaaGreatDoor.Sg
namespace Go.Proofs.YtjfgfoeenajneaaGreatDoor.Sg
open Go.RowKit

/-- bytes in a row of their own, or none: as an append or a conversion makes them -/
def VL (w : World) (base : Nat) (v : Value) (t : List Nat) : Prop :=
  (v = .slice none 0 0 ∧ t = []) ∨ ∃ g cap cur z, v = .slice (some ⟨g, 0, none⟩) t.length cap ∧ base ≤ g ∧ w.heap[g]? = some (.cells cur 5 z) ∧ (z = (0, 0) ∨ z = (cap, cap + 1)) ∧ cur.size = cap ∧ t.length ≤ cap ∧ cur.toList.take t.length = u8s t
theorem VB.vl {w : World} {base : Nat} {v : Value} {t : List Nat} (h : VB w base v t) : VL w base v t := by
  obtain ⟨g, cap, cur, h1, h2, h3, h4, h5, h6⟩ := h
  exact .inr ⟨g, cap, cur, _, h1, h2, h3, .inr rfl, h4, h5, h6⟩
theorem VL.of_own {w : World} {base : Nat} {v : Value} {t : List Nat} (h : w.ownsRow base 5 1 v t.length (u8s t)) : VL w base v t := by
  rcases h.2 with ⟨rfl, h0⟩ | ⟨g, cap, cur, rfl, hb, hg, hn, _, hs, ht⟩
  · exact .inl ⟨rfl, List.eq_nil_of_length_eq_zero h0⟩
  · exact .inr ⟨g, cap, cur, _, rfl, hb, hg, .inl rfl, by omega, hn, by rw [← ht, Nat.mul_one]⟩
theorem VL.keep {w w' : World} {base : Nat} {v : Value} {t : List Nat} (h : VL w base v t) (hk : ∀ g, v.ownBlock = some g → w'.heap[g]? = w.heap[g]?) : VL w' base v t := by
  rcases h with h | ⟨g, cap, cur, z, rfl, h1, h2, h3⟩
  · exact .inl h
  · exact .inr ⟨g, cap, cur, z, rfl, h1, (hk g rfl).trans h2, h3⟩
theorem VL.lt {w : World} {base : Nat} {v : Value} {t : List Nat} (h : VL w base v t) : ∀ g, v.ownBlock = some g → base ≤ g ∧ g < w.heap.size := by
  intro g hg
  rcases h with ⟨rfl, _⟩ | ⟨g', cap, cur, z, rfl, h1, h2, h3⟩
  · cases hg
  · injection hg with hg
    have hg : g' = g := hg
    subst hg
    exact ⟨h1, (Array.getElem?_eq_some_iff.1 h2).1⟩
theorem VL.sl {w : World} {base : Nat} {v : Value} {t : List Nat} (h : VL w base v t) : SlB w v t := by
  rcases h with ⟨rfl, rfl⟩ | ⟨g, cap, cur, z, rfl, h1, h2, h3, h4, h5, h6⟩
  · exact ⟨none, 0, rfl, ⟨rfl, fun h => by simp at h⟩, trivial⟩
  · refine ⟨_, cap, rfl, ⟨u8s_length t, fun _ => ⟨g, 0, rfl, fun j hj => ?_⟩⟩, trivial⟩
    rw [Nat.zero_add, ← h6, List.getElem?_take, if_pos hj]
    simp [World.cell?, h2]
/-- the first k bytes are written over -/
def overW (t : List Nat) (x k : Nat) : List Nat := List.replicate k x ++ t.drop k
theorem overW_length {t : List Nat} {x k : Nat} (h : k ≤ t.length) : (overW t x k).length = t.length := by unfold overW; simp; omega
theorem overW_next {t : List Nat} {x k : Nat} (h : k < t.length) : (u8s (overW t x k)).set k (.int .u8 (x : Int)) = u8s (overW t x (k + 1)) := by
  unfold u8s
  rw [show Value.int IntKind.u8 (x : Int) = (fun (n : Nat) => Value.int .u8 (n : Int)) x from rfl, ← List.map_set]
  congr 1
  unfold overW
  rw [List.set_append_right _ _ (by simp), List.length_replicate, Nat.sub_self, List.drop_eq_getElem_cons h, List.set_cons_zero, List.replicate_succ', List.append_assoc]
  rfl
theorem VL.over {w : World} {base g cap : Nat} {t : List Nat} {x k : Nat} (h : VL w base (.slice (some ⟨g, 0, none⟩) t.length cap) (overW t x k)) (hk : k < t.length) : VL (w.setCell ⟨g, k, none⟩ (.int .u8 (x : Int))) base (.slice (some ⟨g, 0, none⟩) t.length cap) (overW t x (k + 1)) ∧ (∃ v, w.cell? ⟨g, k, none⟩ = some (.int .u8 v)) ∧ w.frozen? ⟨g, k, none⟩ = false := by
  rcases h with ⟨h, _⟩ | ⟨g', cap', cur, z, h0, h1, h2, h3, h4, h5, h6⟩
  · cases h
  · rw [overW_length (by omega)] at h0 h5 h6
    injection h0 with h0 _ h9
    injection h0 with h0
    injection h0 with h0 _ _
    subst h0 h9
    have hget : cur[k]? = (u8s (overW t x k))[k]? := by
      rw [← h6, List.getElem?_take, if_pos hk]
      simp
    refine ⟨.inr ⟨g, cap, cur.setIfInBounds k (.int .u8 (x : Int)), z, by rw [overW_length (by omega)], h1, ?_, h3, by simpa using h4, by rw [overW_length (by omega)]; exact h5, ?_⟩, ⟨((overW t x k).getD k 0 : Nat), ?_⟩, ?_⟩
    · simp [World.setCell, Array.getElem?_modify, h2]
    · rw [overW_length (by omega), Array.toList_setIfInBounds, List.take_set, h6, overW_next hk]
    · rw [← u8s_get (t := overW t x k) (by rw [overW_length (by omega)]; exact hk), ← hget]
      simp [World.cell?, h2]
    · unfold World.frozen?
      rw [h2]
      rcases h3 with rfl | rfl
      · simp
      · have : ¬ cap ≤ k := by omega
        simp [this]
set_option maxRecDepth 100000 in
set_option maxHeartbeats 4000000 in
theorem fill24_any (base : Nat) (t : List Nat) (v : Value) (w : World) (h : VL w base v t) (hn : t.length ≤ 1152921504606846976) :
    Calls Tryz.prog 32 #[v] w fun e w' => (∃ r, e = .returned r) ∧ VL w' base v (overW t 238 t.length) ∧ w.grownBy w' v.ownBlock := by
  rcases h with ⟨rfl, rfl⟩ | ⟨g, cap, cur, z, rfl, h2⟩
  · go_enter Tryz.func32, Tryz.ntmps32
    go_upto_region 1 with fail
    go_loopw [2] (fun i wr => i = .int .i64 0 ∧ wr = w) (fun _ _ => 0)
    case atStart => exact ⟨rfl, rfl⟩
    case round =>
      obtain ⟨rfl, rfl⟩ := hrel
      go_wp2_with fail
      refine bodyPost_end (results_none (by rfl) _ _ _) (by rfl) ?_
      exact ⟨⟨_, rfl⟩, .inl ⟨rfl, rfl⟩, grown_of_below (Below.refl _ _) _⟩
  · have hv : VL w base (.slice (some ⟨g, 0, none⟩) t.length cap) (overW t 238 0) := .inr ⟨g, cap, cur, z, rfl, h2⟩
    clear h2
    clear cur z
    obtain ⟨n, hnn⟩ : ∃ n, t.length = n := ⟨_, rfl⟩
    have HN := Lib.hid hnn
    rw [hnn] at hn
    go_enter Tryz.func32, Tryz.ntmps32
    go_upto_region 1 with fail
    go_loopw [2] (fun i wr => ∃ k : Nat, k ≤ t.length ∧ i = .int .i64 k ∧ VL wr base (.slice (some ⟨g, 0, none⟩) t.length cap) (overW t 238 k) ∧ w.grownBy wr (some g)) (fun i _ => t.length - (intOf i).toNat)
    case atStart => exact ⟨0, by omega, rfl, hv, grown_of_below (Below.refl _ _) _⟩
    clear hv
    case round =>
      obtain ⟨k, hk, rfl, hv, hG⟩ := hrel
      by_cases hlt : k < t.length
      · obtain ⟨hv2, ⟨o, hc⟩, hf⟩ := hv.over hlt
        have hG2 := grown_set hG k (.int .u8 238)
        have HV := Lib.hid (And.intro hv2 hG2); clear hv2 hG2 hv hG hnn
        have hk0 : 0 ≤ (k : Int) := by omega
        have hkn : (k : Int) < (t.length : Int) := by omega
        have hkt : t.length ≤ 1152921504606846976 := by rw [HN.out]; exact hn
        go_wp2_with fail
        go_roundw
        case rel => exact ⟨k + 1, by omega, by go_num, HV.out.1, HV.out.2⟩
        case measure => simp [intOf]; omega
      · obtain rfl : k = t.length := by omega
        have HV := Lib.hid (And.intro hv hG); clear hv hG hnn
        go_wp2_with fail
        refine bodyPost_end (results_none (by rfl) _ _ _) (by rfl) ?_
        exact ⟨⟨_, rfl⟩, HV.out.1, HV.out.2⟩
end Go.Proofs.YtjfgfoeenajneaaGreatDoor.Sg
