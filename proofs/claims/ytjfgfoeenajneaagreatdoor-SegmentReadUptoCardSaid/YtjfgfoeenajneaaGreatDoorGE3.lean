/- What the document reads of a segment's data. -/
import Derived.Test.YtjfgfoeenajneaaGreatDoorGE1
import Derived.Test.YtjfgfoeenajneaaGreatDoorGE2
import Derived.Test.YtjfgfoeenajneaaGreatDoorGD2
import Derived.Test.YtjfgfoeenajneaaGreatDoorGC2
namespace Go.Proofs.YtjfgfoeenajneaaGreatDoor.Sg
open Go.RowKit

def CtP (c : Nat) (dt : List UInt8) (w : World) (e : Ending) (w' : World) : Prop :=
  Below w.heap.size w w' ∧ match contM c dt with
  | .bad k => e = .returned (.tuple #[.agg (segC SegM.none_ nilS nilS nilS nilS nilS), .int .i64 (k : Nat)])
  | .ok s => ∃ vq vh vc vp vi, e = .returned (.tuple #[.agg (segC s vq vh vc vp vi), .int .i64 0]) ∧ ListsL w.heap.size w' s vq vh vc vp vi
theorem quantsM_nz : ∀ (n : Nat) (l : List UInt8) (acc : List QuantM) (c : Nat), quantsM n l acc = .bad c → c ≠ 0
  | 0, l, acc, c, h => by cases h
  | n + 1, [], acc, c, h => by cases h
  | n + 1, b :: l, acc, c, h => by
    unfold quantsM at h
    split at h
    · injection h with h; omega
    · split at h
      · injection h with h; omega
      · split at h
        · injection h with h; omega
        · exact quantsM_nz n _ _ c h
theorem huffsM_nz : ∀ (n : Nat) (l : List UInt8) (acc : List HuffM) (c : Nat), huffsM n l acc = .bad c → c ≠ 0
  | 0, l, acc, c, h => by cases h
  | n + 1, [], acc, c, h => by cases h
  | n + 1, b :: l, acc, c, h => by
    unfold huffsM at h
    split at h
    · injection h with h; omega
    · split at h
      · injection h with h; omega
      · split at h
        · injection h with h; omega
        · split at h
          · injection h with h; omega
          · exact huffsM_nz n _ _ c h
theorem refQ_nz {l : List UInt8} {c : Nat} (h : refQ l = .bad c) : c ≠ 0 := by
  unfold refQ at h
  split at h
  · injection h with h; omega
  · exact quantsM_nz _ _ _ _ h
theorem refH_nz {l : List UInt8} {c : Nat} (h : refH l = .bad c) : c ≠ 0 := by
  unfold refH at h
  split at h
  · injection h with h; omega
  · exact huffsM_nz _ _ _ _ h
theorem sof_rf (c : Nat) (l : List UInt8) : rfM c l = sofM l := by
  unfold rfM sofM
  by_cases h : l.length = 6 + 3 * nb l 5
  · rw [if_neg (show ¬ (l.length < 6 ∨ l.length ≠ 6 + 3 * nb l 5) by omega), if_neg (show ¬ l.length ≠ 6 + 3 * nb l 5 by omega), compsM_eq (nb l 5) (l.drop 6) (by rw [List.length_drop]; omega)]
    rfl
  · rw [if_pos (.inr h), if_pos h]
set_option maxRecDepth 100000 in
set_option maxHeartbeats 16000000 in
theorem contents_any (c : Nat) (dt : List UInt8) (w : World) (hc : c < 256) (hl : dt.length ≤ 65535) :
    Calls Tryz.prog 23 #[.int .u8 (c : Int), .string (Bs dt)] w (CtP c dt w) := by
  have HN0 := Lib.hid (show (segC SegM.none_ nilS nilS nilS nilS nilS).all (·.oneCell') = true from one13 _ _ _ _ _ _ rfl rfl rfl rfl rfl)
  have HB0 := Lib.hid (show (segC (blank c 0 0) nilS nilS nilS nilS nilS).all (·.oneCell') = true from one13 _ _ _ _ _ _ rfl rfl rfl rfl rfl)
  go_enter Tryz.func23, Tryz.ntmps23
  go_upto_region 1 with fail
  have hR := Blk.new w 31 #[.int .u8 0, .int .i64 0, .int .i64 0, .slice none 0 0, .slice none 0 0, .int .u8 0, .int .i64 0, .int .i64 0, .slice none 0 0, .slice none 0 0, .slice none 0 0, .int .i64 0, .string (ByteArray.mk #[])]
  have hb : Below w.heap.size w (w.alloc (.cells #[.int .u8 0, .int .i64 0, .int .i64 0, .slice none 0 0, .slice none 0 0, .int .u8 0, .int .i64 0, .int .i64 0, .slice none 0 0, .slice none 0 0, .slice none 0 0, .int .i64 0, .string (ByteArray.mk #[])] 31)) := (Below.refl _ _).alloc (Nat.le_refl _) _
  have hz : (w.alloc (.cells #[.int .u8 0, .int .i64 0, .int .i64 0, .slice none 0 0, .slice none 0 0, .int .u8 0, .int .i64 0, .int .i64 0, .slice none 0 0, .slice none 0 0, .slice none 0 0, .int .i64 0, .string (ByteArray.mk #[])] 31)).heap.size = w.heap.size + 1 := by simp
  generalize (w.alloc (.cells #[.int .u8 0, .int .i64 0, .int .i64 0, .slice none 0 0, .slice none 0 0, .int .u8 0, .int .i64 0, .int .i64 0, .slice none 0 0, .slice none 0 0, .slice none 0 0, .int .i64 0, .string (ByteArray.mk #[])] 31)) = w1 at hR hb hz ⊢
  have hD1 : Blk (w1.alloc (.cells #[.int .u8 0, .int .i64 0, .int .i64 0, .slice none 0 0, .slice none 0 0, .int .u8 0, .int .i64 0, .int .i64 0, .slice none 0 0, .slice none 0 0, .slice none 0 0, .int .i64 0, .string (ByteArray.mk #[])] 31)) (w.heap.size + 1) 31 #[.int .u8 0, .int .i64 0, .int .i64 0, .slice none 0 0, .slice none 0 0, .int .u8 0, .int .i64 0, .int .i64 0, .slice none 0 0, .slice none 0 0, .slice none 0 0, .int .i64 0, .string (ByteArray.mk #[])] := by
    have h9 := Blk.new w1 31 #[.int .u8 0, .int .i64 0, .int .i64 0, .slice none 0 0, .slice none 0 0, .int .u8 0, .int .i64 0, .int .i64 0, .slice none 0 0, .slice none 0 0, .slice none 0 0, .int .i64 0, .string (ByteArray.mk #[])]
    rwa [hz] at h9
  go_upto_region 2 with (refine wpList_store_row rfl _ _ _ rfl _ (segC (blank c 0 0) nilS nilS nilS nilS nilS) rfl rfl _ _ hD1 size13R rfl HB0.out ?_)
  have hQ : Blk ((w1.alloc (.cells #[.int .u8 0, .int .i64 0, .int .i64 0, .slice none 0 0, .slice none 0 0, .int .u8 0, .int .i64 0, .int .i64 0, .slice none 0 0, .slice none 0 0, .slice none 0 0, .int .i64 0, .string (ByteArray.mk #[])] 31)).setRow (w.heap.size + 1) (segC (blank c 0 0) nilS nilS nilS nilS nilS)) (w.heap.size + 1) 31 (segC (blank c 0 0) nilS nilS nilS nilS nilS) := hD1.row
  have hbb : Below w1.heap.size w1 ((w1.alloc (.cells #[.int .u8 0, .int .i64 0, .int .i64 0, .slice none 0 0, .slice none 0 0, .int .u8 0, .int .i64 0, .int .i64 0, .slice none 0 0, .slice none 0 0, .slice none 0 0, .int .i64 0, .string (ByteArray.mk #[])] 31)).setRow (w.heap.size + 1) (segC (blank c 0 0) nilS nilS nilS nilS nilS)) := grown_below (grown_row (grown_alloc (grown_of_below (Below.refl _ _) none) _) (.inl (by omega)) _)
  have hR1 := hR.kept hbb
  have hb1 := below_then hb hbb
  have hz1 : ((w1.alloc (.cells #[.int .u8 0, .int .i64 0, .int .i64 0, .slice none 0 0, .slice none 0 0, .int .u8 0, .int .i64 0, .int .i64 0, .slice none 0 0, .slice none 0 0, .slice none 0 0, .int .i64 0, .string (ByteArray.mk #[])] 31)).setRow (w.heap.size + 1) (segC (blank c 0 0) nilS nilS nilS nilS nilS)).heap.size = w.heap.size + 2 := by simp [World.setRow, hz]
  clear hR hb hbb hD1 hz
  generalize ((w1.alloc (.cells #[.int .u8 0, .int .i64 0, .int .i64 0, .slice none 0 0, .slice none 0 0, .int .u8 0, .int .i64 0, .int .i64 0, .slice none 0 0, .slice none 0 0, .slice none 0 0, .int .i64 0, .string (ByteArray.mk #[])] 31)).setRow (w.heap.size + 1) (segC (blank c 0 0) nilS nilS nilS nilS nilS)) = w2 at hQ hR1 hb1 hz1 ⊢
  go_upto_region 3 with fail
  have hal : Below w2.heap.size w2 (w2.alloc (.cells #[.string (Bs dt)] 123)) := (Below.refl _ _).alloc (Nat.le_refl _) _
  have hD : StrAt 123 (w2.alloc (.cells #[.string (Bs dt)] 123)) (w.heap.size + 2) dt := by
    have h9 := Blk.new w2 123 #[.string (Bs dt)]
    rwa [hz1] at h9
  have hQ := hQ.kept hal
  have hR := hR1.kept hal
  have hb := below_then hb1 hal
  clear hR1 hb1 hal
  generalize (w2.alloc (.cells #[.string (Bs dt)] 123)) = u1 at hQ hR hb hD ⊢
  clear hz1
  obtain ⟨r, hr⟩ : ∃ r, w.heap.size = r := ⟨_, rfl⟩
  obtain ⟨q, hq⟩ : ∃ q, r + 1 = q := ⟨_, rfl⟩
  obtain ⟨d, hd⟩ : ∃ d, r + 2 = d := ⟨_, rfl⟩
  rw [hr, hq] at hQ
  rw [hr] at hR
  rw [hr, hd] at hD
  simp only [hr, hq, hd]
  have HRQ := Lib.hid (show w.heap.size = r ∧ r + 1 = q ∧ r + 2 = d from ⟨hr, hq, hd⟩); clear hr hq hd
  have HFR := Lib.hid (frame15_any c u1 hc)
  go_wp2_with fail
  refine HFR.out.mono ?_
  rintro e u0 ⟨rfl, rfl⟩
  clear HFR
  rcases (show c = 219 ∨ c = 196 ∨ c = 192 ∨ c = 193 ∨ c = 218 ∨ c = 221 ∨ ¬ (c = 219 ∨ c = 196 ∨ c = 192 ∨ c = 193 ∨ c = 218 ∨ c = 221) by omega) with rfl | rfl | rfl | rfl | rfl | rfl | hcn
  · have hcm : contM 219 dt = match refQ dt with | .bad e => .bad e | .ok l => .ok { { SegM.none_ with code := 219 } with quants := l } := by
      unfold contM refQ
      rw [if_pos rfl]
      by_cases h : dt = []
      · rw [if_pos h, if_pos h]
      · rw [if_neg h, if_neg h]
        cases quantsM dt.length dt [] <;> rfl
    have hq := quants_any d dt u1 hD (by omega)
    cases hr : refQ dt with
    | bad cc =>
      have hc0 := refQ_nz hr
      rw [hr] at hq hcm
      have HQ := Lib.hid hq; clear hq hr
      have HM := Lib.hid hcm; clear hcm
      have hcb : ((cc : Int) != 0) = true := by simpa using hc0
      have hcb2 : ¬ ((cc : Int) = 0) := by omega
      clear hc0
      go_wp2_with fail
      refine HQ.out.mono ?_
      rintro e u2 ⟨rfl, hg⟩
      have hQ2 := hQ.grown hg (fun e => by injection e with e; have := HRQ.out; omega)
      have hR2 := hR.grown hg (fun e => by injection e with e; have := HRQ.out; omega)
      have hb2 : Below w.heap.size w u2 := hb.grown hg hb.size (fun g e => by injection e with e; have := HRQ.out; omega)
      have hz2 : q + 2 ≤ u1.heap.size := by have := hD.lt; have := HRQ.out; omega
      clear hQ hR hb hg hD
      have e3 : u2.cell? ⟨q, 3, none⟩ = some nilS := by rw [hQ2.cell]; rfl
      have f3 : u2.frozen? ⟨q, 3, none⟩ = false := hQ2.frozen _
      go_upto_region 18 with fail
      have hQ9 := hQ2.set 3 (.slice none 0 0)
      have hR9 := hR2.far (p := ⟨q, 3, none⟩) (show r ≠ q by have := HRQ.out; omega) (.slice none 0 0)
      have hb9 := hb2.setCell (p := ⟨q, 3, none⟩) (show w.heap.size ≤ q by have := HRQ.out; omega) (.slice none 0 0)
      clear hQ2 hR2 hb2 e3 f3 
      generalize u2.setCell ⟨q, 3, none⟩ (.slice none 0 0) = u9 at hQ9 hR9 hb9  ⊢
      go_wp2_with (refine wpList_store_row rfl _ _ _ rfl _ (segC SegM.none_ nilS nilS nilS nilS nilS) rfl rfl _ _ hR9 size13R rfl HN0.out ?_)
      refine bodyPost_ret (results_cell_tmp (by rfl) _ _ r 31 _ _ _ _ (by rfl) (by rfl) hR9.row Tryz.underlying31 rfl size13R) (by rfl) ?_
      refine ⟨grown_below (grown_row (grown_of_below hb9 none) (.inl (by have := HRQ.out; omega)) _), ?_⟩
      rw [HM.out]
      rfl
    | ok ls =>
      rw [hr] at hq hcm
      have HQ := Lib.hid hq; clear hq hr
      have HM := Lib.hid hcm; clear hcm
      go_wp2_with fail
      refine HQ.out.mono ?_
      rintro e u2 ⟨v, rfl, hown2, hg⟩
      have hQ2 := hQ.grown hg (fun e => by injection e with e; have := HRQ.out; omega)
      have hR2 := hR.grown hg (fun e => by injection e with e; have := HRQ.out; omega)
      have hb2 : Below w.heap.size w u2 := hb.grown hg hb.size (fun g e => by injection e with e; have := HRQ.out; omega)
      have hz2 : q + 2 ≤ u1.heap.size := by have := hD.lt; have := HRQ.out; omega
      clear hQ hR hb hg hD
      have hown2 := own_mono hown2 hz2
      obtain ⟨A, kk, rfl⟩ := own_slice hown2
      have e3 : u2.cell? ⟨q, 3, none⟩ = some nilS := by rw [hQ2.cell]; rfl
      have f3 : u2.frozen? ⟨q, 3, none⟩ = false := hQ2.frozen _
      go_upto_region 18 with fail
      have hQ9 := hQ2.set 3 (.slice A ls.length kk)
      have hR9 := hR2.far (p := ⟨q, 3, none⟩) (show r ≠ q by have := HRQ.out; omega) (.slice A ls.length kk)
      have hb9 := hb2.setCell (p := ⟨q, 3, none⟩) (show w.heap.size ≤ q by have := HRQ.out; omega) (.slice A ls.length kk)
      have hown9 := own_keep hown2 (w' := u2.setCell ⟨q, 3, none⟩ (.slice A ls.length kk)) (fun g hg => Below.heap_setCell _ _ _ _ (by have := (hown2.lt g hg).1; show g ≠ q; have := HRQ.out; omega))
      clear hQ2 hR2 hb2 e3 f3 hown2
      generalize u2.setCell ⟨q, 3, none⟩ (.slice A ls.length kk) = u9 at hQ9 hR9 hb9 hown9 ⊢
      have hl : ListsL (q + 2) u9 ({ { SegM.none_ with code := 219 } with quants := ls } : SegM) (.slice A ls.length kk) nilS nilS nilS nilS := ⟨hown9, ⟨[], rfl, World.ownsRow_nil _ _ _ _, fun p hp => by cases hp⟩, World.ownsRow_nil _ _ _ _, World.ownsRow_nil _ _ _ _, World.ownsRow_nil _ _ _ _⟩
      have HO := Lib.hid (at_one hl.at_)
      have HL := Lib.hid hl; clear hl hown9
      have hQ9 : Blk u9 q 31 (segC ({ { SegM.none_ with code := 219 } with quants := ls } : SegM) (.slice A ls.length kk) nilS nilS nilS nilS) := hQ9
      go_wp2_with (first | (refine wpList_load_row rfl _ _ rfl q rfl _ _ _ _ hQ9 Tryz.underlying31 rfl size13R ?_) | (refine wpList_store_row rfl _ _ _ rfl _ _ rfl rfl _ _ hR9 size13R rfl HO.out ?_))
      refine bodyPost_ret (results_cell_tmp (by rfl) _ _ r 31 _ _ _ _ (by rfl) (by rfl) hR9.row Tryz.underlying31 rfl size13R) (by rfl) ?_
      refine ⟨grown_below (grown_row (grown_of_below hb9 none) (.inl (by have := HRQ.out; omega)) _), ?_⟩
      rw [HM.out]
      exact ⟨.slice A ls.length kk, nilS, nilS, nilS, nilS, rfl, (HL.out.keep fun g hg _ => setRow_other u9 r g _ (by have := HRQ.out; omega)).mono (by have := HRQ.out; omega)⟩
  · have hcm : contM 196 dt = match refH dt with | .bad e => .bad e | .ok l => .ok { { SegM.none_ with code := 196 } with huffs := l } := by
      unfold contM refH
      rw [if_neg (by decide), if_pos rfl]
      by_cases h : dt = []
      · rw [if_pos h, if_pos h]
      · rw [if_neg h, if_neg h]
        cases huffsM dt.length dt [] <;> rfl
    have hq := huffs_any d dt u1 hD (by omega)
    cases hr : refH dt with
    | bad cc =>
      have hc0 := refH_nz hr
      rw [hr] at hq hcm
      have HQ := Lib.hid hq; clear hq hr
      have HM := Lib.hid hcm; clear hcm
      have hcb : ((cc : Int) != 0) = true := by simpa using hc0
      have hcb2 : ¬ ((cc : Int) = 0) := by omega
      clear hc0
      go_wp2_with fail
      refine HQ.out.mono ?_
      rintro e u2 ⟨rfl, hg⟩
      have hQ2 := hQ.grown hg (fun e => by injection e with e; have := HRQ.out; omega)
      have hR2 := hR.grown hg (fun e => by injection e with e; have := HRQ.out; omega)
      have hb2 : Below w.heap.size w u2 := hb.grown hg hb.size (fun g e => by injection e with e; have := HRQ.out; omega)
      have hz2 : q + 2 ≤ u1.heap.size := by have := hD.lt; have := HRQ.out; omega
      clear hQ hR hb hg hD
      have e4 : u2.cell? ⟨q, 4, none⟩ = some nilS := by rw [hQ2.cell]; rfl
      have f4 : u2.frozen? ⟨q, 4, none⟩ = false := hQ2.frozen _
      go_upto_region 18 with fail
      have hQ9 := hQ2.set 4 (.slice none 0 0)
      have hR9 := hR2.far (p := ⟨q, 4, none⟩) (show r ≠ q by have := HRQ.out; omega) (.slice none 0 0)
      have hb9 := hb2.setCell (p := ⟨q, 4, none⟩) (show w.heap.size ≤ q by have := HRQ.out; omega) (.slice none 0 0)
      clear hQ2 hR2 hb2 e4 f4 
      generalize u2.setCell ⟨q, 4, none⟩ (.slice none 0 0) = u9 at hQ9 hR9 hb9  ⊢
      go_wp2_with (refine wpList_store_row rfl _ _ _ rfl _ (segC SegM.none_ nilS nilS nilS nilS nilS) rfl rfl _ _ hR9 size13R rfl HN0.out ?_)
      refine bodyPost_ret (results_cell_tmp (by rfl) _ _ r 31 _ _ _ _ (by rfl) (by rfl) hR9.row Tryz.underlying31 rfl size13R) (by rfl) ?_
      refine ⟨grown_below (grown_row (grown_of_below hb9 none) (.inl (by have := HRQ.out; omega)) _), ?_⟩
      rw [HM.out]
      rfl
    | ok ls =>
      rw [hr] at hq hcm
      have HQ := Lib.hid hq; clear hq hr
      have HM := Lib.hid hcm; clear hcm
      go_wp2_with fail
      refine HQ.out.mono ?_
      rintro e u2 ⟨v, ps, rfl, hps, hJ⟩
      have hg := hJ.gr
      have hQ2 := hQ.grown hg (fun e => by injection e with e; have := HRQ.out; omega)
      have hR2 := hR.grown hg (fun e => by injection e with e; have := HRQ.out; omega)
      have hb2 : Below w.heap.size w u2 := hb.grown hg hb.size (fun g e => by injection e with e; have := HRQ.out; omega)
      have hz2 : q + 2 ≤ u1.heap.size := by have := hD.lt; have := HRQ.out; omega
      clear hQ hR hb hg hD
      have hown2 := own_mono hJ.own hz2
      have hv2 : ∀ p ∈ ps, VL u2 (q + 2) p.2 p.1.vals := fun p hp => (hJ.vals p hp).mono hz2
      have HV2 := Lib.hid hv2; clear hv2 hJ
      have HPS := Lib.hid hps; clear hps
      obtain ⟨A, kk, rfl⟩ := own_slice hown2
      have hv9 : ∀ p ∈ ps, VL (u2.setCell ⟨q, 4, none⟩ (.slice A ps.length kk)) (q + 2) p.2 p.1.vals := fun p hp => (HV2.out p hp).setD (show q < q + 2 by omega) 4 _
      have HV9 := Lib.hid hv9; clear hv9
      have e4 : u2.cell? ⟨q, 4, none⟩ = some nilS := by rw [hQ2.cell]; rfl
      have f4 : u2.frozen? ⟨q, 4, none⟩ = false := hQ2.frozen _
      go_upto_region 18 with fail
      have hQ9 := hQ2.set 4 (.slice A ps.length kk)
      have hR9 := hR2.far (p := ⟨q, 4, none⟩) (show r ≠ q by have := HRQ.out; omega) (.slice A ps.length kk)
      have hb9 := hb2.setCell (p := ⟨q, 4, none⟩) (show w.heap.size ≤ q by have := HRQ.out; omega) (.slice A ps.length kk)
      have hown9 := own_keep hown2 (w' := u2.setCell ⟨q, 4, none⟩ (.slice A ps.length kk)) (fun g hg => Below.heap_setCell _ _ _ _ (by have := (hown2.lt g hg).1; show g ≠ q; have := HRQ.out; omega))
      clear hQ2 hR2 hb2 e4 f4 hown2
      generalize u2.setCell ⟨q, 4, none⟩ (.slice A ps.length kk) = u9 at hQ9 hR9 hb9 hown9 HV9 ⊢
      have hl : ListsL (q + 2) u9 ({ { SegM.none_ with code := 196 } with huffs := ls } : SegM) nilS (.slice A ps.length kk) nilS nilS nilS := ⟨World.ownsRow_nil _ _ _ _, ⟨ps, HPS.out, hown9, HV9.out⟩, World.ownsRow_nil _ _ _ _, World.ownsRow_nil _ _ _ _, World.ownsRow_nil _ _ _ _⟩
      have HO := Lib.hid (at_one hl.at_)
      have HL := Lib.hid hl; clear hl
      have hQ9 : Blk u9 q 31 (segC ({ { SegM.none_ with code := 196 } with huffs := ls } : SegM) nilS (.slice A ps.length kk) nilS nilS nilS) := hQ9
      go_wp2_with (first | (refine wpList_load_row rfl _ _ rfl q rfl _ _ _ _ hQ9 Tryz.underlying31 rfl size13R ?_) | (refine wpList_store_row rfl _ _ _ rfl _ _ rfl rfl _ _ hR9 size13R rfl HO.out ?_))
      refine bodyPost_ret (results_cell_tmp (by rfl) _ _ r 31 _ _ _ _ (by rfl) (by rfl) hR9.row Tryz.underlying31 rfl size13R) (by rfl) ?_
      refine ⟨grown_below (grown_row (grown_of_below hb9 none) (.inl (by have := HRQ.out; omega)) _), ?_⟩
      rw [HM.out]
      exact ⟨nilS, .slice A ps.length kk, nilS, nilS, nilS, rfl, (HL.out.keep fun g hg _ => setRow_other u9 r g _ (by have := HRQ.out; omega)).mono (by have := HRQ.out; omega)⟩
  · have hcm := contM_f (c := 192) (d := dt) (by omega)
    rw [sof_rf] at hcm
    have hq := sof_any 192 d dt u1 hD (by omega) (by decide)
    have hn1 := nb2_lt dt 1
    have hn3 := nb2_lt dt 3
    by_cases hs : sofM dt = 0
    case neg =>
      obtain ⟨cc, hcc⟩ : ∃ cc, sofM dt = cc := ⟨_, rfl⟩
      rw [if_pos hs] at hcm
      have HSC := Lib.hid (And.intro hs hcc)
      rw [hcc] at hs hcm
      have HQ := Lib.hid hq; clear hq hcc
      have HM := Lib.hid hcm; clear hcm
      have hcb : ((cc : Int) != 0) = true := by simpa using hs
      have hcb2 : ¬ ((cc : Int) = 0) := by omega
      clear hs
      go_wp2_with fail
      refine HQ.out.mono ?_
      intro e u2 he
      unfold SofP at he
      rw [if_neg HSC.out.1, HSC.out.2] at he
      obtain ⟨rfl, hg⟩ := he
      have hQ2 := hQ.grown hg (fun e => by injection e with e; have := HRQ.out; omega)
      have hR2 := hR.grown hg (fun e => by injection e with e; have := HRQ.out; omega)
      have hb2 : Below w.heap.size w u2 := hb.grown hg hb.size (fun g e => by injection e with e; have := HRQ.out; omega)
      have hz2 : q + 2 ≤ u1.heap.size := by have := hD.lt; have := HRQ.out; omega
      clear hQ hR hb hg hD
      have HON := Lib.hid (show (#[.int .u8 0, .int .i64 0, .int .i64 0, (.slice none 0 0)] : Array Value).all (·.oneCell') = true from all_oneCell_toArray (by intro v hv; simp at hv; rcases hv with rfl | rfl | rfl | rfl <;> rfl))
      have hth : u2.there q 5 4 := fun j hj => by
        refine ⟨?_, hQ2.frozen _⟩
        rw [hQ2.cell]
        rcases (show j = 0 ∨ j = 1 ∨ j = 2 ∨ j = 3 by omega) with rfl | rfl | rfl | rfl <;> rfl
      have HTH := Lib.hid hth; clear hth
      go_upto_region 18 with (refine wpList_store_mid rfl _ _ _ rfl q 5 #[.int .u8 0, .int .i64 0, .int .i64 0, (.slice none 0 0)] rfl rfl HTH.out sz4P HON.out ?_)
      rw [setCells4]
      have hQ9 := (((hQ2.set 5 (.int .u8 0)).set 6 (.int .i64 0)).set 7 (.int .i64 0)).set 8 (.slice none 0 0)
      have hR9 := (((hR2.far (p := ⟨q, 5, none⟩) (show r ≠ q by have := HRQ.out; omega) (.int .u8 0)).far (p := ⟨q, 6, none⟩) (show r ≠ q by have := HRQ.out; omega) (.int .i64 0)).far (p := ⟨q, 7, none⟩) (show r ≠ q by have := HRQ.out; omega) (.int .i64 0)).far (p := ⟨q, 8, none⟩) (show r ≠ q by have := HRQ.out; omega) (.slice none 0 0)
      have hb9 := (((hb2.setCell (p := ⟨q, 5, none⟩) (show w.heap.size ≤ q by have := HRQ.out; omega) (.int .u8 0)).setCell (p := ⟨q, 6, none⟩) (show w.heap.size ≤ q by have := HRQ.out; omega) (.int .i64 0)).setCell (p := ⟨q, 7, none⟩) (show w.heap.size ≤ q by have := HRQ.out; omega) (.int .i64 0)).setCell (p := ⟨q, 8, none⟩) (show w.heap.size ≤ q by have := HRQ.out; omega) (.slice none 0 0)
      clear hQ2 hR2 hb2 
      generalize ((((u2.setCell ⟨q, 5, none⟩ (.int .u8 0)).setCell ⟨q, 6, none⟩ (.int .i64 0)).setCell ⟨q, 7, none⟩ (.int .i64 0)).setCell ⟨q, 8, none⟩ (.slice none 0 0)) = u9 at hQ9 hR9 hb9  ⊢
      go_wp2_with (refine wpList_store_row rfl _ _ _ rfl _ (segC SegM.none_ nilS nilS nilS nilS nilS) rfl rfl _ _ hR9 size13R rfl HN0.out ?_)
      refine bodyPost_ret (results_cell_tmp (by rfl) _ _ r 31 _ _ _ _ (by rfl) (by rfl) hR9.row Tryz.underlying31 rfl size13R) (by rfl) ?_
      refine ⟨grown_below (grown_row (grown_of_below hb9 none) (.inl (by have := HRQ.out; omega)) _), ?_⟩
      rw [HM.out]
      rfl
    rw [if_neg (by omega)] at hcm
    have HSC := Lib.hid hs
    have hln : dt.length = 6 + 3 * nb dt 5 := by
      by_cases h : dt.length = 6 + 3 * nb dt 5
      · exact h
      · unfold sofM at hs
        rw [if_pos h] at hs
        cases hs
    have hce := compsM_eq (nb dt 5) (dt.drop 6) (by rw [List.length_drop]; omega)
    have HCE := Lib.hid (And.intro hce hln); clear hce hln hs
    have HQ := Lib.hid hq; clear hq
    have HM := Lib.hid hcm; clear hcm
    go_wp2_with fail
    refine HQ.out.mono ?_
    intro e u2 he
    unfold SofP at he
    rw [if_pos HSC.out] at he
    obtain ⟨v, rfl, hown2, hg⟩ := he
    have hQ2 := hQ.grown hg (fun e => by injection e with e; have := HRQ.out; omega)
    have hR2 := hR.grown hg (fun e => by injection e with e; have := HRQ.out; omega)
    have hb2 : Below w.heap.size w u2 := hb.grown hg hb.size (fun g e => by injection e with e; have := HRQ.out; omega)
    have hz2 : q + 2 ≤ u1.heap.size := by have := hD.lt; have := HRQ.out; omega
    clear hQ hR hb hg hD
    have hown2 := own_mono hown2 hz2
    have hown2 : u2.ownsRow (q + 2) 90 4 v (compsM (dt.drop 6)).length ((compsM (dt.drop 6)).flatMap compC) := by
      rw [HCE.out.1, List.length_map, List.length_range]
      exact hown2
    obtain ⟨A, kk, rfl⟩ := own_slice hown2
    obtain ⟨nn, hnn⟩ : ∃ n, (compsM (dt.drop 6)).length = n := ⟨_, rfl⟩
    obtain ⟨n1, hnh⟩ : ∃ n, nb2 dt 1 = n := ⟨_, rfl⟩
    obtain ⟨n3, hnw⟩ : ∃ n, nb2 dt 3 = n := ⟨_, rfl⟩
    rw [hnn] at hown2
    rw [hnh] at hn1
    rw [hnw] at hn3
    rw [hnn, hnh, hnw]
    have HNN := Lib.hid (And.intro hnn (And.intro hnh hnw)); clear hnn hnh hnw
    have HON := Lib.hid (show (#[.int .u8 192, .int .i64 (n3 : Int), .int .i64 (n1 : Int), (.slice A nn kk)] : Array Value).all (·.oneCell') = true from all_oneCell_toArray (by intro v hv; simp at hv; rcases hv with rfl | rfl | rfl | rfl <;> rfl))
    have hth : u2.there q 5 4 := fun j hj => by
      refine ⟨?_, hQ2.frozen _⟩
      rw [hQ2.cell]
      rcases (show j = 0 ∨ j = 1 ∨ j = 2 ∨ j = 3 by omega) with rfl | rfl | rfl | rfl <;> rfl
    have HTH := Lib.hid hth; clear hth
    go_upto_region 18 with (refine wpList_store_mid rfl _ _ _ rfl q 5 #[.int .u8 192, .int .i64 (n3 : Int), .int .i64 (n1 : Int), (.slice A nn kk)] rfl rfl HTH.out sz4P HON.out ?_)
    rw [setCells4]
    have hQ9 := (((hQ2.set 5 (.int .u8 192)).set 6 (.int .i64 (n3 : Int))).set 7 (.int .i64 (n1 : Int))).set 8 (.slice A nn kk)
    have hR9 := (((hR2.far (p := ⟨q, 5, none⟩) (show r ≠ q by have := HRQ.out; omega) (.int .u8 192)).far (p := ⟨q, 6, none⟩) (show r ≠ q by have := HRQ.out; omega) (.int .i64 (n3 : Int))).far (p := ⟨q, 7, none⟩) (show r ≠ q by have := HRQ.out; omega) (.int .i64 (n1 : Int))).far (p := ⟨q, 8, none⟩) (show r ≠ q by have := HRQ.out; omega) (.slice A nn kk)
    have hb9 := (((hb2.setCell (p := ⟨q, 5, none⟩) (show w.heap.size ≤ q by have := HRQ.out; omega) (.int .u8 192)).setCell (p := ⟨q, 6, none⟩) (show w.heap.size ≤ q by have := HRQ.out; omega) (.int .i64 (n3 : Int))).setCell (p := ⟨q, 7, none⟩) (show w.heap.size ≤ q by have := HRQ.out; omega) (.int .i64 (n1 : Int))).setCell (p := ⟨q, 8, none⟩) (show w.heap.size ≤ q by have := HRQ.out; omega) (.slice A nn kk)
    have hown9 := own_setD (own_setD (own_setD (own_setD hown2 (show q < q + 2 by omega) 5 (.int .u8 192)) (show q < q + 2 by omega) 6 (.int .i64 (n3 : Int))) (show q < q + 2 by omega) 7 (.int .i64 (n1 : Int))) (show q < q + 2 by omega) 8 (.slice A nn kk)
    clear hQ2 hR2 hb2 hown2
    generalize ((((u2.setCell ⟨q, 5, none⟩ (.int .u8 192)).setCell ⟨q, 6, none⟩ (.int .i64 (n3 : Int))).setCell ⟨q, 7, none⟩ (.int .i64 (n1 : Int))).setCell ⟨q, 8, none⟩ (.slice A nn kk)) = u9 at hQ9 hR9 hb9 hown9 ⊢
    rw [← HNN.out.2.1, ← HNN.out.2.2] at hQ9
    have hcc9 : u9.ownsRow (q + 2) 90 4 (.slice A nn kk) (compsM (dt.drop 6)).length ((compsM (dt.drop 6)).flatMap compC) := by rw [HNN.out.1]; exact hown9
    have hl : ListsL (q + 2) u9 ({ { SegM.none_ with code := 192 } with kind := 192, height := (nb2 dt 1 : Nat), width := (nb2 dt 3 : Nat), comps := compsM (dt.drop 6) } : SegM) nilS nilS (.slice A nn kk) nilS nilS := ⟨World.ownsRow_nil _ _ _ _, ⟨[], rfl, World.ownsRow_nil _ _ _ _, fun p hp => by cases hp⟩, hcc9, World.ownsRow_nil _ _ _ _, World.ownsRow_nil _ _ _ _⟩
    have HO := Lib.hid (at_one hl.at_)
    have HL := Lib.hid hl; clear hl
    have hQ9 : Blk u9 q 31 (segC ({ { SegM.none_ with code := 192 } with kind := 192, height := (nb2 dt 1 : Nat), width := (nb2 dt 3 : Nat), comps := compsM (dt.drop 6) } : SegM) nilS nilS (.slice A nn kk) nilS nilS) := hQ9
    go_wp2_with (first | (refine wpList_load_row rfl _ _ rfl q rfl _ _ _ _ hQ9 Tryz.underlying31 rfl size13R ?_) | (refine wpList_store_row rfl _ _ _ rfl _ _ rfl rfl _ _ hR9 size13R rfl HO.out ?_))
    refine bodyPost_ret (results_cell_tmp (by rfl) _ _ r 31 _ _ _ _ (by rfl) (by rfl) hR9.row Tryz.underlying31 rfl size13R) (by rfl) ?_
    refine ⟨grown_below (grown_row (grown_of_below hb9 none) (.inl (by have := HRQ.out; omega)) _), ?_⟩
    rw [HM.out]
    exact ⟨nilS, nilS, .slice A nn kk, nilS, nilS, rfl, (HL.out.keep fun g hg _ => setRow_other u9 r g _ (by have := HRQ.out; omega)).mono (by have := HRQ.out; omega)⟩
  · have hcm := contM_f (c := 193) (d := dt) (by omega)
    rw [sof_rf] at hcm
    have hq := sof_any 193 d dt u1 hD (by omega) (by decide)
    have hn1 := nb2_lt dt 1
    have hn3 := nb2_lt dt 3
    by_cases hs : sofM dt = 0
    case neg =>
      obtain ⟨cc, hcc⟩ : ∃ cc, sofM dt = cc := ⟨_, rfl⟩
      rw [if_pos hs] at hcm
      have HSC := Lib.hid (And.intro hs hcc)
      rw [hcc] at hs hcm
      have HQ := Lib.hid hq; clear hq hcc
      have HM := Lib.hid hcm; clear hcm
      have hcb : ((cc : Int) != 0) = true := by simpa using hs
      have hcb2 : ¬ ((cc : Int) = 0) := by omega
      clear hs
      go_wp2_with fail
      refine HQ.out.mono ?_
      intro e u2 he
      unfold SofP at he
      rw [if_neg HSC.out.1, HSC.out.2] at he
      obtain ⟨rfl, hg⟩ := he
      have hQ2 := hQ.grown hg (fun e => by injection e with e; have := HRQ.out; omega)
      have hR2 := hR.grown hg (fun e => by injection e with e; have := HRQ.out; omega)
      have hb2 : Below w.heap.size w u2 := hb.grown hg hb.size (fun g e => by injection e with e; have := HRQ.out; omega)
      have hz2 : q + 2 ≤ u1.heap.size := by have := hD.lt; have := HRQ.out; omega
      clear hQ hR hb hg hD
      have HON := Lib.hid (show (#[.int .u8 0, .int .i64 0, .int .i64 0, (.slice none 0 0)] : Array Value).all (·.oneCell') = true from all_oneCell_toArray (by intro v hv; simp at hv; rcases hv with rfl | rfl | rfl | rfl <;> rfl))
      have hth : u2.there q 5 4 := fun j hj => by
        refine ⟨?_, hQ2.frozen _⟩
        rw [hQ2.cell]
        rcases (show j = 0 ∨ j = 1 ∨ j = 2 ∨ j = 3 by omega) with rfl | rfl | rfl | rfl <;> rfl
      have HTH := Lib.hid hth; clear hth
      go_upto_region 18 with (refine wpList_store_mid rfl _ _ _ rfl q 5 #[.int .u8 0, .int .i64 0, .int .i64 0, (.slice none 0 0)] rfl rfl HTH.out sz4P HON.out ?_)
      rw [setCells4]
      have hQ9 := (((hQ2.set 5 (.int .u8 0)).set 6 (.int .i64 0)).set 7 (.int .i64 0)).set 8 (.slice none 0 0)
      have hR9 := (((hR2.far (p := ⟨q, 5, none⟩) (show r ≠ q by have := HRQ.out; omega) (.int .u8 0)).far (p := ⟨q, 6, none⟩) (show r ≠ q by have := HRQ.out; omega) (.int .i64 0)).far (p := ⟨q, 7, none⟩) (show r ≠ q by have := HRQ.out; omega) (.int .i64 0)).far (p := ⟨q, 8, none⟩) (show r ≠ q by have := HRQ.out; omega) (.slice none 0 0)
      have hb9 := (((hb2.setCell (p := ⟨q, 5, none⟩) (show w.heap.size ≤ q by have := HRQ.out; omega) (.int .u8 0)).setCell (p := ⟨q, 6, none⟩) (show w.heap.size ≤ q by have := HRQ.out; omega) (.int .i64 0)).setCell (p := ⟨q, 7, none⟩) (show w.heap.size ≤ q by have := HRQ.out; omega) (.int .i64 0)).setCell (p := ⟨q, 8, none⟩) (show w.heap.size ≤ q by have := HRQ.out; omega) (.slice none 0 0)
      clear hQ2 hR2 hb2 
      generalize ((((u2.setCell ⟨q, 5, none⟩ (.int .u8 0)).setCell ⟨q, 6, none⟩ (.int .i64 0)).setCell ⟨q, 7, none⟩ (.int .i64 0)).setCell ⟨q, 8, none⟩ (.slice none 0 0)) = u9 at hQ9 hR9 hb9  ⊢
      go_wp2_with (refine wpList_store_row rfl _ _ _ rfl _ (segC SegM.none_ nilS nilS nilS nilS nilS) rfl rfl _ _ hR9 size13R rfl HN0.out ?_)
      refine bodyPost_ret (results_cell_tmp (by rfl) _ _ r 31 _ _ _ _ (by rfl) (by rfl) hR9.row Tryz.underlying31 rfl size13R) (by rfl) ?_
      refine ⟨grown_below (grown_row (grown_of_below hb9 none) (.inl (by have := HRQ.out; omega)) _), ?_⟩
      rw [HM.out]
      rfl
    rw [if_neg (by omega)] at hcm
    have HSC := Lib.hid hs
    have hln : dt.length = 6 + 3 * nb dt 5 := by
      by_cases h : dt.length = 6 + 3 * nb dt 5
      · exact h
      · unfold sofM at hs
        rw [if_pos h] at hs
        cases hs
    have hce := compsM_eq (nb dt 5) (dt.drop 6) (by rw [List.length_drop]; omega)
    have HCE := Lib.hid (And.intro hce hln); clear hce hln hs
    have HQ := Lib.hid hq; clear hq
    have HM := Lib.hid hcm; clear hcm
    go_wp2_with fail
    refine HQ.out.mono ?_
    intro e u2 he
    unfold SofP at he
    rw [if_pos HSC.out] at he
    obtain ⟨v, rfl, hown2, hg⟩ := he
    have hQ2 := hQ.grown hg (fun e => by injection e with e; have := HRQ.out; omega)
    have hR2 := hR.grown hg (fun e => by injection e with e; have := HRQ.out; omega)
    have hb2 : Below w.heap.size w u2 := hb.grown hg hb.size (fun g e => by injection e with e; have := HRQ.out; omega)
    have hz2 : q + 2 ≤ u1.heap.size := by have := hD.lt; have := HRQ.out; omega
    clear hQ hR hb hg hD
    have hown2 := own_mono hown2 hz2
    have hown2 : u2.ownsRow (q + 2) 90 4 v (compsM (dt.drop 6)).length ((compsM (dt.drop 6)).flatMap compC) := by
      rw [HCE.out.1, List.length_map, List.length_range]
      exact hown2
    obtain ⟨A, kk, rfl⟩ := own_slice hown2
    obtain ⟨nn, hnn⟩ : ∃ n, (compsM (dt.drop 6)).length = n := ⟨_, rfl⟩
    obtain ⟨n1, hnh⟩ : ∃ n, nb2 dt 1 = n := ⟨_, rfl⟩
    obtain ⟨n3, hnw⟩ : ∃ n, nb2 dt 3 = n := ⟨_, rfl⟩
    rw [hnn] at hown2
    rw [hnh] at hn1
    rw [hnw] at hn3
    rw [hnn, hnh, hnw]
    have HNN := Lib.hid (And.intro hnn (And.intro hnh hnw)); clear hnn hnh hnw
    have HON := Lib.hid (show (#[.int .u8 193, .int .i64 (n3 : Int), .int .i64 (n1 : Int), (.slice A nn kk)] : Array Value).all (·.oneCell') = true from all_oneCell_toArray (by intro v hv; simp at hv; rcases hv with rfl | rfl | rfl | rfl <;> rfl))
    have hth : u2.there q 5 4 := fun j hj => by
      refine ⟨?_, hQ2.frozen _⟩
      rw [hQ2.cell]
      rcases (show j = 0 ∨ j = 1 ∨ j = 2 ∨ j = 3 by omega) with rfl | rfl | rfl | rfl <;> rfl
    have HTH := Lib.hid hth; clear hth
    go_upto_region 18 with (refine wpList_store_mid rfl _ _ _ rfl q 5 #[.int .u8 193, .int .i64 (n3 : Int), .int .i64 (n1 : Int), (.slice A nn kk)] rfl rfl HTH.out sz4P HON.out ?_)
    rw [setCells4]
    have hQ9 := (((hQ2.set 5 (.int .u8 193)).set 6 (.int .i64 (n3 : Int))).set 7 (.int .i64 (n1 : Int))).set 8 (.slice A nn kk)
    have hR9 := (((hR2.far (p := ⟨q, 5, none⟩) (show r ≠ q by have := HRQ.out; omega) (.int .u8 193)).far (p := ⟨q, 6, none⟩) (show r ≠ q by have := HRQ.out; omega) (.int .i64 (n3 : Int))).far (p := ⟨q, 7, none⟩) (show r ≠ q by have := HRQ.out; omega) (.int .i64 (n1 : Int))).far (p := ⟨q, 8, none⟩) (show r ≠ q by have := HRQ.out; omega) (.slice A nn kk)
    have hb9 := (((hb2.setCell (p := ⟨q, 5, none⟩) (show w.heap.size ≤ q by have := HRQ.out; omega) (.int .u8 193)).setCell (p := ⟨q, 6, none⟩) (show w.heap.size ≤ q by have := HRQ.out; omega) (.int .i64 (n3 : Int))).setCell (p := ⟨q, 7, none⟩) (show w.heap.size ≤ q by have := HRQ.out; omega) (.int .i64 (n1 : Int))).setCell (p := ⟨q, 8, none⟩) (show w.heap.size ≤ q by have := HRQ.out; omega) (.slice A nn kk)
    have hown9 := own_setD (own_setD (own_setD (own_setD hown2 (show q < q + 2 by omega) 5 (.int .u8 193)) (show q < q + 2 by omega) 6 (.int .i64 (n3 : Int))) (show q < q + 2 by omega) 7 (.int .i64 (n1 : Int))) (show q < q + 2 by omega) 8 (.slice A nn kk)
    clear hQ2 hR2 hb2 hown2
    generalize ((((u2.setCell ⟨q, 5, none⟩ (.int .u8 193)).setCell ⟨q, 6, none⟩ (.int .i64 (n3 : Int))).setCell ⟨q, 7, none⟩ (.int .i64 (n1 : Int))).setCell ⟨q, 8, none⟩ (.slice A nn kk)) = u9 at hQ9 hR9 hb9 hown9 ⊢
    rw [← HNN.out.2.1, ← HNN.out.2.2] at hQ9
    have hcc9 : u9.ownsRow (q + 2) 90 4 (.slice A nn kk) (compsM (dt.drop 6)).length ((compsM (dt.drop 6)).flatMap compC) := by rw [HNN.out.1]; exact hown9
    have hl : ListsL (q + 2) u9 ({ { SegM.none_ with code := 193 } with kind := 193, height := (nb2 dt 1 : Nat), width := (nb2 dt 3 : Nat), comps := compsM (dt.drop 6) } : SegM) nilS nilS (.slice A nn kk) nilS nilS := ⟨World.ownsRow_nil _ _ _ _, ⟨[], rfl, World.ownsRow_nil _ _ _ _, fun p hp => by cases hp⟩, hcc9, World.ownsRow_nil _ _ _ _, World.ownsRow_nil _ _ _ _⟩
    have HO := Lib.hid (at_one hl.at_)
    have HL := Lib.hid hl; clear hl
    have hQ9 : Blk u9 q 31 (segC ({ { SegM.none_ with code := 193 } with kind := 193, height := (nb2 dt 1 : Nat), width := (nb2 dt 3 : Nat), comps := compsM (dt.drop 6) } : SegM) nilS nilS (.slice A nn kk) nilS nilS) := hQ9
    go_wp2_with (first | (refine wpList_load_row rfl _ _ rfl q rfl _ _ _ _ hQ9 Tryz.underlying31 rfl size13R ?_) | (refine wpList_store_row rfl _ _ _ rfl _ _ rfl rfl _ _ hR9 size13R rfl HO.out ?_))
    refine bodyPost_ret (results_cell_tmp (by rfl) _ _ r 31 _ _ _ _ (by rfl) (by rfl) hR9.row Tryz.underlying31 rfl size13R) (by rfl) ?_
    refine ⟨grown_below (grown_row (grown_of_below hb9 none) (.inl (by have := HRQ.out; omega)) _), ?_⟩
    rw [HM.out]
    exact ⟨nilS, nilS, .slice A nn kk, nilS, nilS, rfl, (HL.out.keep fun g hg _ => setRow_other u9 r g _ (by have := HRQ.out; omega)).mono (by have := HRQ.out; omega)⟩
  · have hcm := contM_s dt
    have hq := scan_any d dt u1 hD (by omega)
    by_cases hs : rsM dt = 0
    case neg =>
      obtain ⟨cc, hcc⟩ : ∃ cc, rsM dt = cc := ⟨_, rfl⟩
      rw [if_pos hs] at hcm
      have HSC := Lib.hid (And.intro hs hcc)
      rw [hcc] at hs hcm
      have HQ := Lib.hid hq; clear hq hcc
      have HM := Lib.hid hcm; clear hcm
      have hcb : ((cc : Int) != 0) = true := by simpa using hs
      have hcb2 : ¬ ((cc : Int) = 0) := by omega
      clear hs
      go_wp2_with fail
      refine HQ.out.mono ?_
      intro e u2 he
      unfold ScanP at he
      obtain ⟨hg, he⟩ := he
      rw [if_pos HSC.out.1, HSC.out.2] at he
      subst he
      have hQ2 := hQ.grown hg (fun e => by injection e with e; have := HRQ.out; omega)
      have hR2 := hR.grown hg (fun e => by injection e with e; have := HRQ.out; omega)
      have hb2 : Below w.heap.size w u2 := hb.grown hg hb.size (fun g e => by injection e with e; have := HRQ.out; omega)
      have hz2 : q + 2 ≤ u1.heap.size := by have := hD.lt; have := HRQ.out; omega
      clear hQ hR hb hg hD
      have e10 : u2.cell? ⟨q, 10, none⟩ = some nilS := by rw [hQ2.cell]; rfl
      have f10 : u2.frozen? ⟨q, 10, none⟩ = false := hQ2.frozen _
      have e9 : u2.cell? ⟨q, 9, none⟩ = some nilS := by rw [hQ2.cell]; rfl
      have f9 : u2.frozen? ⟨q, 9, none⟩ = false := hQ2.frozen _
      go_upto_region 18 with fail
      have hQ9 := (hQ2.set 10 (.slice none 0 0)).set 9 (.slice none 0 0)
      have hR9 := (hR2.far (p := ⟨q, 10, none⟩) (show r ≠ q by have := HRQ.out; omega) (.slice none 0 0)).far (p := ⟨q, 9, none⟩) (show r ≠ q by have := HRQ.out; omega) (.slice none 0 0)
      have hb9 := (hb2.setCell (p := ⟨q, 10, none⟩) (show w.heap.size ≤ q by have := HRQ.out; omega) (.slice none 0 0)).setCell (p := ⟨q, 9, none⟩) (show w.heap.size ≤ q by have := HRQ.out; omega) (.slice none 0 0)
      clear hQ2 hR2 hb2 e10 f10 e9 f9 
      generalize ((u2.setCell ⟨q, 10, none⟩ (.slice none 0 0)).setCell ⟨q, 9, none⟩ (.slice none 0 0)) = u9 at hQ9 hR9 hb9  ⊢
      go_wp2_with (refine wpList_store_row rfl _ _ _ rfl _ (segC SegM.none_ nilS nilS nilS nilS nilS) rfl rfl _ _ hR9 size13R rfl HN0.out ?_)
      refine bodyPost_ret (results_cell_tmp (by rfl) _ _ r 31 _ _ _ _ (by rfl) (by rfl) hR9.row Tryz.underlying31 rfl size13R) (by rfl) ?_
      refine ⟨grown_below (grown_row (grown_of_below hb9 none) (.inl (by have := HRQ.out; omega)) _), ?_⟩
      rw [HM.out]
      rfl
    rw [if_neg (by omega)] at hcm
    have HSC := Lib.hid hs
    clear hs
    have HQ := Lib.hid hq; clear hq
    have HM := Lib.hid hcm; clear hcm
    go_wp2_with fail
    refine HQ.out.mono ?_
    intro e u2 he
    unfold ScanP at he
    obtain ⟨hg, he⟩ := he
    rw [if_neg (by have := HSC.out; omega)] at he
    obtain ⟨v1, v2, rfl, howi2, howp2⟩ := he
    have hQ2 := hQ.grown hg (fun e => by injection e with e; have := HRQ.out; omega)
    have hR2 := hR.grown hg (fun e => by injection e with e; have := HRQ.out; omega)
    have hb2 : Below w.heap.size w u2 := hb.grown hg hb.size (fun g e => by injection e with e; have := HRQ.out; omega)
    have hz2 : q + 2 ≤ u1.heap.size := by have := hD.lt; have := HRQ.out; omega
    clear hQ hR hb hg hD
    have howi2 := own_mono howi2 hz2
    have howp2 := own_mono howp2 hz2
    obtain ⟨A, ka, rfl⟩ := own_slice howi2
    obtain ⟨B, kb, rfl⟩ := own_slice howp2
    obtain ⟨nn, hnn⟩ : ∃ n, (psOf dt).length = n := ⟨_, rfl⟩
    rw [hnn] at howi2 howp2
    rw [hnn]
    have HNN := Lib.hid hnn; clear hnn
    have e10 : u2.cell? ⟨q, 10, none⟩ = some nilS := by rw [hQ2.cell]; rfl
    have f10 : u2.frozen? ⟨q, 10, none⟩ = false := hQ2.frozen _
    have e9 : u2.cell? ⟨q, 9, none⟩ = some nilS := by rw [hQ2.cell]; rfl
    have f9 : u2.frozen? ⟨q, 9, none⟩ = false := hQ2.frozen _
    go_upto_region 18 with fail
    have hQ9 := (hQ2.set 10 (.slice A nn ka)).set 9 (.slice B nn kb)
    have hR9 := (hR2.far (p := ⟨q, 10, none⟩) (show r ≠ q by have := HRQ.out; omega) (.slice A nn ka)).far (p := ⟨q, 9, none⟩) (show r ≠ q by have := HRQ.out; omega) (.slice B nn kb)
    have hb9 := (hb2.setCell (p := ⟨q, 10, none⟩) (show w.heap.size ≤ q by have := HRQ.out; omega) (.slice A nn ka)).setCell (p := ⟨q, 9, none⟩) (show w.heap.size ≤ q by have := HRQ.out; omega) (.slice B nn kb)
    have howi9 := own_setD (own_setD howi2 (show q < q + 2 by omega) 10 (.slice A nn ka)) (show q < q + 2 by omega) 9 (.slice B nn kb)
    have howp9 := own_setD (own_setD howp2 (show q < q + 2 by omega) 10 (.slice A nn ka)) (show q < q + 2 by omega) 9 (.slice B nn kb)
    clear hQ2 hR2 hb2 e10 f10 e9 f9 howi2 howp2
    generalize ((u2.setCell ⟨q, 10, none⟩ (.slice A nn ka)).setCell ⟨q, 9, none⟩ (.slice B nn kb)) = u9 at hQ9 hR9 hb9 howi9 howp9 ⊢
    have hii : u9.ownsRow (q + 2) 5 1 (.slice A nn ka) ((psOf dt).map (·.1)).length (u8s ((psOf dt).map (·.1))) := by rw [List.length_map, HNN.out]; exact howi9
    have hpp : u9.ownsRow (q + 2) 92 3 (.slice B nn kb) ((psOf dt).map (·.2)).length (((psOf dt).map (·.2)).flatMap partC) := by rw [List.length_map, HNN.out]; exact howp9
    have hl : ListsL (q + 2) u9 ({ { SegM.none_ with code := 218 } with ids := (psOf dt).map (·.1), parts := (psOf dt).map (·.2) } : SegM) nilS nilS nilS (.slice B nn kb) (.slice A nn ka) := ⟨World.ownsRow_nil _ _ _ _, ⟨[], rfl, World.ownsRow_nil _ _ _ _, fun p hp => by cases hp⟩, World.ownsRow_nil _ _ _ _, hpp, hii⟩
    have HO := Lib.hid (at_one hl.at_)
    have HL := Lib.hid hl; clear hl
    have hQ9 : Blk u9 q 31 (segC ({ { SegM.none_ with code := 218 } with ids := (psOf dt).map (·.1), parts := (psOf dt).map (·.2) } : SegM) nilS nilS nilS (.slice B nn kb) (.slice A nn ka)) := hQ9
    go_wp2_with (first | (refine wpList_load_row rfl _ _ rfl q rfl _ _ _ _ hQ9 Tryz.underlying31 rfl size13R ?_) | (refine wpList_store_row rfl _ _ _ rfl _ _ rfl rfl _ _ hR9 size13R rfl HO.out ?_))
    refine bodyPost_ret (results_cell_tmp (by rfl) _ _ r 31 _ _ _ _ (by rfl) (by rfl) hR9.row Tryz.underlying31 rfl size13R) (by rfl) ?_
    refine ⟨grown_below (grown_row (grown_of_below hb9 none) (.inl (by have := HRQ.out; omega)) _), ?_⟩
    rw [HM.out]
    exact ⟨nilS, nilS, nilS, .slice B nn kb, .slice A nn ka, rfl, (HL.out.keep fun g hg _ => setRow_other u9 r g _ (by have := HRQ.out; omega)).mono (by have := HRQ.out; omega)⟩
  · have hL : (Bs dt).size = dt.length := Bs_size dt
    by_cases h2 : dt.length = 2
    case neg =>
      have hcm : contM 221 dt = .bad 152 := by
        unfold contM
        rw [if_neg (by decide), if_neg (by decide), if_neg (by decide), if_neg (by decide), if_pos rfl, if_pos h2]
      have HM := Lib.hid hcm; clear hcm
      have h2b : ((dt.length : Int) != 2) = true := by simp; omega
      have h2c : ¬ (dt.length : Int) = 2 := by omega
      clear h2
      have hR9 := hR
      have hb9 := hb
      clear hR hb hD hQ
      go_wp2_with (refine wpList_store_row rfl _ _ _ rfl _ (segC SegM.none_ nilS nilS nilS nilS nilS) rfl rfl _ _ hR9 size13R rfl HN0.out ?_)
      refine bodyPost_ret (results_cell_tmp (by rfl) _ _ r 31 _ _ _ _ (by rfl) (by rfl) hR9.row Tryz.underlying31 rfl size13R) (by rfl) ?_
      refine ⟨grown_below (grown_row (grown_of_below hb9 none) (.inl (by have := HRQ.out; omega)) _), ?_⟩
      rw [HM.out]
      rfl
    have hcm : contM 221 dt = .ok { { SegM.none_ with code := 221 } with restart := (nb2 dt 0 : Nat) } := by
      unfold contM
      rw [if_neg (by decide), if_neg (by decide), if_neg (by decide), if_neg (by decide), if_pos rfl, if_neg (by omega)]
      rfl
    have HM := Lib.hid hcm; clear hcm
    rw [h2] at hL
    have HQ := Lib.hid (two_any d dt u1 hD (by omega))
    have hn0 := nb2_lt dt 0
    clear h2
    go_wp2_with fail
    refine HQ.out.mono ?_
    rintro e u2 ⟨rfl, _, hg⟩
    have hQ2 := hQ.grown hg (fun e => by injection e with e; have := HRQ.out; omega)
    have hR2 := hR.grown hg (fun e => by injection e with e; have := HRQ.out; omega)
    have hb2 : Below w.heap.size w u2 := hb.grown hg hb.size (fun g e => by injection e with e; have := HRQ.out; omega)
    have hz2 : q + 2 ≤ u1.heap.size := by have := hD.lt; have := HRQ.out; omega
    clear hQ hR hb hg hD
    have e11 : u2.cell? ⟨q, 11, none⟩ = some (.int .i64 0) := by rw [hQ2.cell]; rfl
    have f11 : u2.frozen? ⟨q, 11, none⟩ = false := hQ2.frozen _
    go_upto_region 18 with fail
    have hQ9 := hQ2.set 11 (.int .i64 (nb2 dt 0 : Nat))
    have hR9 := hR2.far (p := ⟨q, 11, none⟩) (show r ≠ q by have := HRQ.out; omega) (.int .i64 (nb2 dt 0 : Nat))
    have hb9 := hb2.setCell (p := ⟨q, 11, none⟩) (show w.heap.size ≤ q by have := HRQ.out; omega) (.int .i64 (nb2 dt 0 : Nat))
    clear hQ2 hR2 hb2 e11 f11 
    generalize u2.setCell ⟨q, 11, none⟩ (.int .i64 (nb2 dt 0 : Nat)) = u9 at hQ9 hR9 hb9  ⊢
    have hl : ListsL (q + 2) u9 ({ { SegM.none_ with code := 221 } with restart := (nb2 dt 0 : Nat) } : SegM) nilS nilS nilS nilS nilS := ⟨World.ownsRow_nil _ _ _ _, ⟨[], rfl, World.ownsRow_nil _ _ _ _, fun p hp => by cases hp⟩, World.ownsRow_nil _ _ _ _, World.ownsRow_nil _ _ _ _, World.ownsRow_nil _ _ _ _⟩
    have HO := Lib.hid (at_one hl.at_)
    have HL := Lib.hid hl; clear hl
    have hQ9 : Blk u9 q 31 (segC ({ { SegM.none_ with code := 221 } with restart := (nb2 dt 0 : Nat) } : SegM) nilS nilS nilS nilS nilS) := hQ9
    go_wp2_with (first | (refine wpList_load_row rfl _ _ rfl q rfl _ _ _ _ hQ9 Tryz.underlying31 rfl size13R ?_) | (refine wpList_store_row rfl _ _ _ rfl _ _ rfl rfl _ _ hR9 size13R rfl HO.out ?_))
    refine bodyPost_ret (results_cell_tmp (by rfl) _ _ r 31 _ _ _ _ (by rfl) (by rfl) hR9.row Tryz.underlying31 rfl size13R) (by rfl) ?_
    refine ⟨grown_below (grown_row (grown_of_below hb9 none) (.inl (by have := HRQ.out; omega)) _), ?_⟩
    rw [HM.out]
    exact ⟨nilS, nilS, nilS, nilS, nilS, rfl, (HL.out.keep fun g hg _ => setRow_other u9 r g _ (by have := HRQ.out; omega)).mono (by have := HRQ.out; omega)⟩
  have p1 : ((c : Int) == 219) = false := beq_false_of_ne (by omega)
  have p2 : ((c : Int) == 196) = false := beq_false_of_ne (by omega)
  have p3 : (c == 192 || c == 193) = false := by simp; omega
  have p5 : ((c : Int) == 218) = false := beq_false_of_ne (by omega)
  have p6 : ((c : Int) == 221) = false := beq_false_of_ne (by omega)
  have hcm : contM c dt = .ok { { SegM.none_ with code := c } with data := dt } := by
    unfold contM
    rw [if_neg (by omega), if_neg (by omega), if_neg (by omega), if_neg (by omega), if_neg (by omega)]
  have HM := Lib.hid hcm; clear hcm hcn
  have hQ2 := hQ
  have hR2 := hR
  have hb2 := hb
  clear hQ hR hb hD
  have e12 : u1.cell? ⟨q, 12, none⟩ = some (.string (Bs [])) := by rw [hQ2.cell]; rfl
  have f12 : u1.frozen? ⟨q, 12, none⟩ = false := hQ2.frozen _
  go_upto_region 18 with fail
  have hQ9 := hQ2.set 12 (.string (Bs dt))
  have hR9 := hR2.far (p := ⟨q, 12, none⟩) (show r ≠ q by have := HRQ.out; omega) (.string (Bs dt))
  have hb9 := hb2.setCell (p := ⟨q, 12, none⟩) (show w.heap.size ≤ q by have := HRQ.out; omega) (.string (Bs dt))
  clear hQ2 hR2 hb2 e12 f12 
  generalize u1.setCell ⟨q, 12, none⟩ (.string (Bs dt)) = u9 at hQ9 hR9 hb9  ⊢
  have hl : ListsL (q + 2) u9 ({ { SegM.none_ with code := c } with data := dt } : SegM) nilS nilS nilS nilS nilS := ⟨World.ownsRow_nil _ _ _ _, ⟨[], rfl, World.ownsRow_nil _ _ _ _, fun p hp => by cases hp⟩, World.ownsRow_nil _ _ _ _, World.ownsRow_nil _ _ _ _, World.ownsRow_nil _ _ _ _⟩
  have HO := Lib.hid (at_one hl.at_)
  have HL := Lib.hid hl; clear hl
  have hQ9 : Blk u9 q 31 (segC ({ { SegM.none_ with code := c } with data := dt } : SegM) nilS nilS nilS nilS nilS) := hQ9
  go_wp2_with (first | (refine wpList_load_row rfl _ _ rfl q rfl _ _ _ _ hQ9 Tryz.underlying31 rfl size13R ?_) | (refine wpList_store_row rfl _ _ _ rfl _ _ rfl rfl _ _ hR9 size13R rfl HO.out ?_))
  refine bodyPost_ret (results_cell_tmp (by rfl) _ _ r 31 _ _ _ _ (by rfl) (by rfl) hR9.row Tryz.underlying31 rfl size13R) (by rfl) ?_
  refine ⟨grown_below (grown_row (grown_of_below hb9 none) (.inl (by have := HRQ.out; omega)) _), ?_⟩
  rw [HM.out]
  exact ⟨nilS, nilS, nilS, nilS, nilS, rfl, (HL.out.keep fun g hg _ => setRow_other u9 r g _ (by have := HRQ.out; omega)).mono (by have := HRQ.out; omega)⟩
end Go.Proofs.YtjfgfoeenajneaaGreatDoor.Sg
