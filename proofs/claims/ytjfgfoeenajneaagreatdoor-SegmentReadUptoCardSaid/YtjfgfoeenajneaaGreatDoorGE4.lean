/- The document reads a segment. -/
import Derived.Test.YtjfgfoeenajneaaGreatDoorGE3
import Derived.Test.YtjfgfoeenajneaaGreatDoorG0Va
import Derived.Test.YtjfgfoeenajneaaGreatDoorGB0
import Derived.Test.YtjfgfoeenajneaaGreatDoorGC7
namespace Go.Proofs.YtjfgfoeenajneaaGreatDoor.Sg
open Go.RowKit
open Go.Proofs.YtjfgfoeenajneaaGreatDoor.Lex (F)

def ReadDP (r : Read) (w : World) (e : Ending) (w' : World) : Prop :=
  Below w.heap.size w w' ∧ match r with
  | .fault c p => e = .returned (.tuple #[.agg (segC SegM.none_ nilS nilS nilS nilS nilS), .agg #[.int .i64 (c : Int), .int .i64 p]])
  | .seg m => ∃ vq vh vc vp vi, e = .returned (.tuple #[.agg (segC m vq vh vc vp vi), .agg #[.int .i64 0, .int .i64 0]]) ∧ ListsL w.heap.size w' m vq vh vc vp vi
theorem contM_nz {c : Nat} {l : List UInt8} {k : Nat} (h : contM c l = .bad k) : k ≠ 0 := by
  by_cases h1 : c = 219
  · subst h1
    unfold contM at h
    rw [if_pos rfl] at h
    by_cases h0 : l = []
    · rw [if_pos h0] at h
      injection h with h; omega
    · rw [if_neg h0] at h
      cases hq : quantsM l.length l [] with
      | bad e => rw [hq] at h; injection h with h; subst h; exact quantsM_nz _ _ _ _ hq
      | ok e => rw [hq] at h; cases h
  by_cases h2 : c = 196
  · subst h2
    unfold contM at h
    rw [if_neg (by decide), if_pos rfl] at h
    by_cases h0 : l = []
    · rw [if_pos h0] at h
      injection h with h; omega
    · rw [if_neg h0] at h
      cases hq : huffsM l.length l [] with
      | bad e => rw [hq] at h; injection h with h; subst h; exact huffsM_nz _ _ _ _ hq
      | ok e => rw [hq] at h; cases h
  by_cases h3 : c = 192 ∨ c = 193
  · rw [contM_f h3] at h
    by_cases h0 : rfM c l ≠ 0
    · rw [if_pos h0] at h
      injection h with h; omega
    · rw [if_neg h0] at h
      cases h
  by_cases h4 : c = 218
  · subst h4
    rw [contM_s] at h
    by_cases h0 : rsM l ≠ 0
    · rw [if_pos h0] at h
      injection h with h; omega
    · rw [if_neg h0] at h
      cases h
  unfold contM at h
  rw [if_neg h1, if_neg h2, if_neg h3, if_neg h4] at h
  by_cases h5 : c = 221
  · rw [if_pos h5] at h
    by_cases h0 : l.length ≠ 2
    · rw [if_pos h0] at h
      injection h with h; omega
    · rw [if_neg h0] at h
      cases h
  · rw [if_neg h5] at h
    cases h
set_option maxRecDepth 100000 in
set_option maxHeartbeats 32000000 in
theorem readD_any (f : List UInt8) (p : Int) (w : World) (hl : f.length ≤ 16777216) (hp1 : -9223372036854775808 ≤ p) (hp2 : p ≤ 9223372036854775807) :
    Calls Tryz.prog 6 #[.string (Bs f), .int .i64 p] w (ReadDP (readM f p) w) := by
  have hR := (Blk.new w 31 #[.int .u8 0, .int .i64 0, .int .i64 0, .slice none 0 0, .slice none 0 0, .int .u8 0, .int .i64 0, .int .i64 0, .slice none 0 0, .slice none 0 0, .slice none 0 0, .int .i64 0, .string (ByteArray.mk #[])]).alloc (.cells #[.int .i64 0, .int .i64 0] 34)
  have hF : Blk ((w.alloc (.cells #[.int .u8 0, .int .i64 0, .int .i64 0, .slice none 0 0, .slice none 0 0, .int .u8 0, .int .i64 0, .int .i64 0, .slice none 0 0, .slice none 0 0, .slice none 0 0, .int .i64 0, .string (ByteArray.mk #[])] 31)).alloc (.cells #[.int .i64 0, .int .i64 0] 34)) (w.heap.size + 1) 34 #[.int .i64 0, .int .i64 0] := by
    have h := Blk.new (w.alloc (.cells #[.int .u8 0, .int .i64 0, .int .i64 0, .slice none 0 0, .slice none 0 0, .int .u8 0, .int .i64 0, .int .i64 0, .slice none 0 0, .slice none 0 0, .slice none 0 0, .int .i64 0, .string (ByteArray.mk #[])] 31)) 34 #[.int .i64 0, .int .i64 0]
    rwa [show (w.alloc (.cells #[.int .u8 0, .int .i64 0, .int .i64 0, .slice none 0 0, .slice none 0 0, .int .u8 0, .int .i64 0, .int .i64 0, .slice none 0 0, .slice none 0 0, .slice none 0 0, .int .i64 0, .string (ByteArray.mk #[])] 31)).heap.size = w.heap.size + 1 by simp] at h
  have hb1 : Below w.heap.size w ((w.alloc (.cells #[.int .u8 0, .int .i64 0, .int .i64 0, .slice none 0 0, .slice none 0 0, .int .u8 0, .int .i64 0, .int .i64 0, .slice none 0 0, .slice none 0 0, .slice none 0 0, .int .i64 0, .string (ByteArray.mk #[])] 31)).alloc (.cells #[.int .i64 0, .int .i64 0] 34)) := ((Below.refl _ _).alloc (Nat.le_refl _) _).alloc (by simp) _
  have hi1 : (Tryz.prog.info? 31).map (·.size) = some (segC SegM.none_ nilS nilS nilS nilS nilS).size := size13R
  have hi3 : (segC SegM.none_ nilS nilS nilS nilS nilS).all (·.oneCell') = true := one13 _ _ _ _ _ _ rfl rfl rfl rfl rfl
  have HI := Lib.hid (And.intro hi1 hi3); clear hi1 hi3
  have hL : (Bs f).size = f.length := Bs_size f
  have hbyte : ∀ k, ∀ h : k < (Bs f).size, ((Bs f)[k]).toNat = nb f k := fun k h => by rw [Bs_get]; rfl
  obtain ⟨n, hn⟩ : ∃ n, f.length = n := ⟨_, rfl⟩
  have hcut : ∀ a b, (Bs f).extract a b = Bs ((f.drop a).take (b - a)) := fun a b => Bs_cut f a b
  rw [hn] at hL hl
  obtain ⟨RR, hRR⟩ : ∃ RR, readM f p = RR := ⟨_, rfl⟩
  rw [hRR]
  have hrd := hRR.symm
  unfold readM at hrd
  rw [hn] at hrd
  have HRD := Lib.hid hrd; clear hrd hRR
  have HN := Lib.hid hn; clear hn
  generalize Bs f = LB at hL hbyte hcut ⊢
  have HBY := Lib.hid hbyte; clear hbyte
  have HCUT := Lib.hid hcut; clear hcut
  go_enter Tryz.func6, Tryz.ntmps6
  go_upto_region 1 with fail
  generalize (w.alloc (.cells #[.int .u8 0, .int .i64 0, .int .i64 0, .slice none 0 0, .slice none 0 0, .int .u8 0, .int .i64 0, .int .i64 0, .slice none 0 0, .slice none 0 0, .slice none 0 0, .int .i64 0, .string (ByteArray.mk #[])] 31)).alloc (.cells #[.int .i64 0, .int .i64 0] 34) = w1 at hR hF hb1 ⊢
  obtain ⟨r0, hr0⟩ : ∃ r, w.heap.size = r := ⟨_, rfl⟩
  obtain ⟨r1, hr1⟩ : ∃ r, r0 + 1 = r := ⟨_, rfl⟩
  rw [hr0] at hR
  rw [hr0, hr1] at hF
  simp only [hr0, hr1]
  have HR0 := Lib.hid (And.intro hr0 hr1); clear hr0 hr1
  by_cases c1 : p < 0 ∨ (n : Int) < p
  · have hrd := HRD.out
    rw [if_pos c1] at hrd
    have HD := Lib.hid hrd; clear hrd HRD
    by_cases c2 : p < 0
    · go_wp2_with fail
      refine (fault15_any 3 p w1).mono ?_
      rintro e wz ⟨rfl, hbz⟩
      have hRz := hR.kept hbz
      have hFz := (hF.kept hbz).rowFar (ds := (segC SegM.none_ nilS nilS nilS nilS nilS)) (g' := r0) (by have := HR0.out; omega)
      have hR3z := ((hRz.row (ds := (segC SegM.none_ nilS nilS nilS nilS nilS))).far (p := ⟨r1, 0, none⟩) (show r0 ≠ r1 by have := HR0.out; omega) (.int .i64 3)).far (p := ⟨r1, 1, none⟩) (show r0 ≠ r1 by have := HR0.out; omega) (.int .i64 p)
      have hF3z : Blk (((wz.setRow r0 (segC SegM.none_ nilS nilS nilS nilS nilS)).setCell ⟨r1, 0, none⟩ (.int .i64 3)).setCell ⟨r1, 1, none⟩ (.int .i64 p)) r1 34 #[.int .i64 3, .int .i64 p] := (hFz.set 0 (.int .i64 3)).set 1 (.int .i64 p)
      have kc0 : (wz.setRow r0 (segC SegM.none_ nilS nilS nilS nilS nilS)).cell? ⟨r1, 0, none⟩ = some (.int .i64 0) := by rw [hFz.cell]; rfl
      have kc1 : (wz.setRow r0 (segC SegM.none_ nilS nilS nilS nilS nilS)).cell? ⟨r1, 1, none⟩ = some (.int .i64 0) := by rw [hFz.cell]; rfl
      have kf0 : (wz.setRow r0 (segC SegM.none_ nilS nilS nilS nilS nilS)).frozen? ⟨r1, 0, none⟩ = false := hFz.frozen _
      have kf1 : (wz.setRow r0 (segC SegM.none_ nilS nilS nilS nilS nilS)).frozen? ⟨r1, 1, none⟩ = false := hFz.frozen _
      have hb4z : Below w.heap.size w (((wz.setRow r0 (segC SegM.none_ nilS nilS nilS nilS nilS)).setCell ⟨r1, 0, none⟩ (.int .i64 3)).setCell ⟨r1, 1, none⟩ (.int .i64 p)) := ((grown_below (grown_row (below_grown (below_then hb1 hbz) none) (.inl (by have := HR0.out; omega)) _)).setCell (p := ⟨r1, 0, none⟩) (show w.heap.size ≤ r1 by have := HR0.out; omega) _).setCell (p := ⟨r1, 1, none⟩) (show w.heap.size ≤ r1 by have := HR0.out; omega) _
      have HG := Lib.hid hb4z; clear hb4z hbz
      go_wp2_with (first | (refine wpList_store_row rfl _ _ _ rfl _ (segC SegM.none_ nilS nilS nilS nilS nilS) rfl rfl _ _ hRz HI.out.1 rfl HI.out.2 ?_))
      refine bodyPost_ret (results_cells (by rfl) _ _ r0 r1 31 34 _ _ _ _ _ _ (by rfl) (by rfl) hR3z hF3z Tryz.underlying31 rfl HI.out.1 Tryz.underlying34 rfl size2V) (by rfl) ?_
      refine ⟨HG.out, ?_⟩
      rw [HD.out]
      try rfl
    have c3 : (n : Int) < p := by omega
    have c2b : ¬ p < 0 := c2
    go_wp2_with fail
    refine (fault15_any 3 p w1).mono ?_
    rintro e wz ⟨rfl, hbz⟩
    have hRz := hR.kept hbz
    have hFz := (hF.kept hbz).rowFar (ds := (segC SegM.none_ nilS nilS nilS nilS nilS)) (g' := r0) (by have := HR0.out; omega)
    have hR3z := ((hRz.row (ds := (segC SegM.none_ nilS nilS nilS nilS nilS))).far (p := ⟨r1, 0, none⟩) (show r0 ≠ r1 by have := HR0.out; omega) (.int .i64 3)).far (p := ⟨r1, 1, none⟩) (show r0 ≠ r1 by have := HR0.out; omega) (.int .i64 p)
    have hF3z : Blk (((wz.setRow r0 (segC SegM.none_ nilS nilS nilS nilS nilS)).setCell ⟨r1, 0, none⟩ (.int .i64 3)).setCell ⟨r1, 1, none⟩ (.int .i64 p)) r1 34 #[.int .i64 3, .int .i64 p] := (hFz.set 0 (.int .i64 3)).set 1 (.int .i64 p)
    have kc0 : (wz.setRow r0 (segC SegM.none_ nilS nilS nilS nilS nilS)).cell? ⟨r1, 0, none⟩ = some (.int .i64 0) := by rw [hFz.cell]; rfl
    have kc1 : (wz.setRow r0 (segC SegM.none_ nilS nilS nilS nilS nilS)).cell? ⟨r1, 1, none⟩ = some (.int .i64 0) := by rw [hFz.cell]; rfl
    have kf0 : (wz.setRow r0 (segC SegM.none_ nilS nilS nilS nilS nilS)).frozen? ⟨r1, 0, none⟩ = false := hFz.frozen _
    have kf1 : (wz.setRow r0 (segC SegM.none_ nilS nilS nilS nilS nilS)).frozen? ⟨r1, 1, none⟩ = false := hFz.frozen _
    have hb4z : Below w.heap.size w (((wz.setRow r0 (segC SegM.none_ nilS nilS nilS nilS nilS)).setCell ⟨r1, 0, none⟩ (.int .i64 3)).setCell ⟨r1, 1, none⟩ (.int .i64 p)) := ((grown_below (grown_row (below_grown (below_then hb1 hbz) none) (.inl (by have := HR0.out; omega)) _)).setCell (p := ⟨r1, 0, none⟩) (show w.heap.size ≤ r1 by have := HR0.out; omega) _).setCell (p := ⟨r1, 1, none⟩) (show w.heap.size ≤ r1 by have := HR0.out; omega) _
    have HG := Lib.hid hb4z; clear hb4z hbz
    go_wp2_with (first | (refine wpList_store_row rfl _ _ _ rfl _ (segC SegM.none_ nilS nilS nilS nilS nilS) rfl rfl _ _ hRz HI.out.1 rfl HI.out.2 ?_))
    refine bodyPost_ret (results_cells (by rfl) _ _ r0 r1 31 34 _ _ _ _ _ _ (by rfl) (by rfl) hR3z hF3z Tryz.underlying31 rfl HI.out.1 Tryz.underlying34 rfl size2V) (by rfl) ?_
    refine ⟨HG.out, ?_⟩
    rw [HD.out]
    try rfl
  have hrd := HRD.out
  rw [if_neg c1] at hrd
  clear HRD
  obtain ⟨q, rfl⟩ : ∃ q : Nat, p = q := ⟨p.toNat, by omega⟩
  have hqn : q ≤ n := by omega
  clear c1 hp1 hp2
  rw [Int.toNat_natCast] at hrd
  have c2 : ¬ (q : Int) < 0 := by omega
  have c3 : ¬ (n : Int) < (q : Int) := by omega
  by_cases e1 : q = n
  · rw [if_pos (by omega)] at hrd
    have HD := Lib.hid hrd; clear hrd
    subst e1
    go_wp2_with fail
    refine (fault15_any 44 (q : Int) w1).mono ?_
    rintro e wz ⟨rfl, hbz⟩
    have hRz := hR.kept hbz
    have hFz := (hF.kept hbz).rowFar (ds := (segC SegM.none_ nilS nilS nilS nilS nilS)) (g' := r0) (by have := HR0.out; omega)
    have hR3z := ((hRz.row (ds := (segC SegM.none_ nilS nilS nilS nilS nilS))).far (p := ⟨r1, 0, none⟩) (show r0 ≠ r1 by have := HR0.out; omega) (.int .i64 44)).far (p := ⟨r1, 1, none⟩) (show r0 ≠ r1 by have := HR0.out; omega) (.int .i64 (q : Int))
    have hF3z : Blk (((wz.setRow r0 (segC SegM.none_ nilS nilS nilS nilS nilS)).setCell ⟨r1, 0, none⟩ (.int .i64 44)).setCell ⟨r1, 1, none⟩ (.int .i64 (q : Int))) r1 34 #[.int .i64 44, .int .i64 (q : Int)] := (hFz.set 0 (.int .i64 44)).set 1 (.int .i64 (q : Int))
    have kc0 : (wz.setRow r0 (segC SegM.none_ nilS nilS nilS nilS nilS)).cell? ⟨r1, 0, none⟩ = some (.int .i64 0) := by rw [hFz.cell]; rfl
    have kc1 : (wz.setRow r0 (segC SegM.none_ nilS nilS nilS nilS nilS)).cell? ⟨r1, 1, none⟩ = some (.int .i64 0) := by rw [hFz.cell]; rfl
    have kf0 : (wz.setRow r0 (segC SegM.none_ nilS nilS nilS nilS nilS)).frozen? ⟨r1, 0, none⟩ = false := hFz.frozen _
    have kf1 : (wz.setRow r0 (segC SegM.none_ nilS nilS nilS nilS nilS)).frozen? ⟨r1, 1, none⟩ = false := hFz.frozen _
    have hb4z : Below w.heap.size w (((wz.setRow r0 (segC SegM.none_ nilS nilS nilS nilS nilS)).setCell ⟨r1, 0, none⟩ (.int .i64 44)).setCell ⟨r1, 1, none⟩ (.int .i64 (q : Int))) := ((grown_below (grown_row (below_grown (below_then hb1 hbz) none) (.inl (by have := HR0.out; omega)) _)).setCell (p := ⟨r1, 0, none⟩) (show w.heap.size ≤ r1 by have := HR0.out; omega) _).setCell (p := ⟨r1, 1, none⟩) (show w.heap.size ≤ r1 by have := HR0.out; omega) _
    have HG := Lib.hid hb4z; clear hb4z hbz
    go_wp2_with (first | (refine wpList_store_row rfl _ _ _ rfl _ (segC SegM.none_ nilS nilS nilS nilS nilS) rfl rfl _ _ hRz HI.out.1 rfl HI.out.2 ?_))
    refine bodyPost_ret (results_cells (by rfl) _ _ r0 r1 31 34 _ _ _ _ _ _ (by rfl) (by rfl) hR3z hF3z Tryz.underlying31 rfl HI.out.1 Tryz.underlying34 rfl size2V) (by rfl) ?_
    refine ⟨HG.out, ?_⟩
    rw [HD.out]
    try rfl
  rw [if_neg (by omega)] at hrd
  have e1b : ((q : Int) == n) = false := beq_false_of_ne (by omega)
  have hqi : (q : Int) < n := by omega
  have e1c : ¬ (q : Int) = n := by omega
  clear e1 hqn c3
  have c3 : ¬ (n : Int) < (q : Int) := by omega
  have hq0 : 0 ≤ (q : Int) := by omega
  have hyq : ∀ h : q < LB.size, (LB[q]).toNat = nb f q := HBY.out q
  have hxq := nb_lt f q
  rw [show ((f.getD q 0).toNat) = nb f q from rfl] at hrd
  generalize nb f q = FF at hyq hxq hrd
  by_cases e2 : FF = 255
  case neg =>
    rw [if_pos e2] at hrd
    have HD := Lib.hid hrd; clear hrd
    have e2b : ((FF : Int) != 255) = true := by simp; omega
    have e2c : ¬ (FF : Int) = 255 := by omega
    go_wp2_with fail
    refine (fault15_any 151 (q : Int) w1).mono ?_
    rintro e wz ⟨rfl, hbz⟩
    have hRz := hR.kept hbz
    have hFz := (hF.kept hbz).rowFar (ds := (segC SegM.none_ nilS nilS nilS nilS nilS)) (g' := r0) (by have := HR0.out; omega)
    have hR3z := ((hRz.row (ds := (segC SegM.none_ nilS nilS nilS nilS nilS))).far (p := ⟨r1, 0, none⟩) (show r0 ≠ r1 by have := HR0.out; omega) (.int .i64 151)).far (p := ⟨r1, 1, none⟩) (show r0 ≠ r1 by have := HR0.out; omega) (.int .i64 (q : Int))
    have hF3z : Blk (((wz.setRow r0 (segC SegM.none_ nilS nilS nilS nilS nilS)).setCell ⟨r1, 0, none⟩ (.int .i64 151)).setCell ⟨r1, 1, none⟩ (.int .i64 (q : Int))) r1 34 #[.int .i64 151, .int .i64 (q : Int)] := (hFz.set 0 (.int .i64 151)).set 1 (.int .i64 (q : Int))
    have kc0 : (wz.setRow r0 (segC SegM.none_ nilS nilS nilS nilS nilS)).cell? ⟨r1, 0, none⟩ = some (.int .i64 0) := by rw [hFz.cell]; rfl
    have kc1 : (wz.setRow r0 (segC SegM.none_ nilS nilS nilS nilS nilS)).cell? ⟨r1, 1, none⟩ = some (.int .i64 0) := by rw [hFz.cell]; rfl
    have kf0 : (wz.setRow r0 (segC SegM.none_ nilS nilS nilS nilS nilS)).frozen? ⟨r1, 0, none⟩ = false := hFz.frozen _
    have kf1 : (wz.setRow r0 (segC SegM.none_ nilS nilS nilS nilS nilS)).frozen? ⟨r1, 1, none⟩ = false := hFz.frozen _
    have hb4z : Below w.heap.size w (((wz.setRow r0 (segC SegM.none_ nilS nilS nilS nilS nilS)).setCell ⟨r1, 0, none⟩ (.int .i64 151)).setCell ⟨r1, 1, none⟩ (.int .i64 (q : Int))) := ((grown_below (grown_row (below_grown (below_then hb1 hbz) none) (.inl (by have := HR0.out; omega)) _)).setCell (p := ⟨r1, 0, none⟩) (show w.heap.size ≤ r1 by have := HR0.out; omega) _).setCell (p := ⟨r1, 1, none⟩) (show w.heap.size ≤ r1 by have := HR0.out; omega) _
    have HG := Lib.hid hb4z; clear hb4z hbz
    go_wp2_with (first | (refine wpList_store_row rfl _ _ _ rfl _ (segC SegM.none_ nilS nilS nilS nilS nilS) rfl rfl _ _ hRz HI.out.1 rfl HI.out.2 ?_))
    refine bodyPost_ret (results_cells (by rfl) _ _ r0 r1 31 34 _ _ _ _ _ _ (by rfl) (by rfl) hR3z hF3z Tryz.underlying31 rfl HI.out.1 Tryz.underlying34 rfl size2V) (by rfl) ?_
    refine ⟨HG.out, ?_⟩
    rw [HD.out]
    try rfl
  rw [if_neg (by omega)] at hrd
  subst e2
  obtain ⟨q1, hq1⟩ : ∃ q1, q + 1 = q1 := ⟨_, rfl⟩
  have hw1 : IntKind.i64.wrap ((q : Int) + 1) = (q1 : Int) := by rw [IntWalk.i64_in _ (by omega)]; omega
  by_cases e3 : q1 = n
  · rw [if_pos (by omega)] at hrd
    have HD := Lib.hid hrd; clear hrd
    have e3b : ((q1 : Int) == n) = true := by simp; omega
    have e3c : (q1 : Int) = n := by omega
    go_wp2_with fail
    refine (fault15_any 44 (n : Int) w1).mono ?_
    rintro e wz ⟨rfl, hbz⟩
    have hRz := hR.kept hbz
    have hFz := (hF.kept hbz).rowFar (ds := (segC SegM.none_ nilS nilS nilS nilS nilS)) (g' := r0) (by have := HR0.out; omega)
    have hR3z := ((hRz.row (ds := (segC SegM.none_ nilS nilS nilS nilS nilS))).far (p := ⟨r1, 0, none⟩) (show r0 ≠ r1 by have := HR0.out; omega) (.int .i64 44)).far (p := ⟨r1, 1, none⟩) (show r0 ≠ r1 by have := HR0.out; omega) (.int .i64 (n : Int))
    have hF3z : Blk (((wz.setRow r0 (segC SegM.none_ nilS nilS nilS nilS nilS)).setCell ⟨r1, 0, none⟩ (.int .i64 44)).setCell ⟨r1, 1, none⟩ (.int .i64 (n : Int))) r1 34 #[.int .i64 44, .int .i64 (n : Int)] := (hFz.set 0 (.int .i64 44)).set 1 (.int .i64 (n : Int))
    have kc0 : (wz.setRow r0 (segC SegM.none_ nilS nilS nilS nilS nilS)).cell? ⟨r1, 0, none⟩ = some (.int .i64 0) := by rw [hFz.cell]; rfl
    have kc1 : (wz.setRow r0 (segC SegM.none_ nilS nilS nilS nilS nilS)).cell? ⟨r1, 1, none⟩ = some (.int .i64 0) := by rw [hFz.cell]; rfl
    have kf0 : (wz.setRow r0 (segC SegM.none_ nilS nilS nilS nilS nilS)).frozen? ⟨r1, 0, none⟩ = false := hFz.frozen _
    have kf1 : (wz.setRow r0 (segC SegM.none_ nilS nilS nilS nilS nilS)).frozen? ⟨r1, 1, none⟩ = false := hFz.frozen _
    have hb4z : Below w.heap.size w (((wz.setRow r0 (segC SegM.none_ nilS nilS nilS nilS nilS)).setCell ⟨r1, 0, none⟩ (.int .i64 44)).setCell ⟨r1, 1, none⟩ (.int .i64 (n : Int))) := ((grown_below (grown_row (below_grown (below_then hb1 hbz) none) (.inl (by have := HR0.out; omega)) _)).setCell (p := ⟨r1, 0, none⟩) (show w.heap.size ≤ r1 by have := HR0.out; omega) _).setCell (p := ⟨r1, 1, none⟩) (show w.heap.size ≤ r1 by have := HR0.out; omega) _
    have HG := Lib.hid hb4z; clear hb4z hbz
    go_wp2_with (first | (refine wpList_store_row rfl _ _ _ rfl _ (segC SegM.none_ nilS nilS nilS nilS nilS) rfl rfl _ _ hRz HI.out.1 rfl HI.out.2 ?_))
    refine bodyPost_ret (results_cells (by rfl) _ _ r0 r1 31 34 _ _ _ _ _ _ (by rfl) (by rfl) hR3z hF3z Tryz.underlying31 rfl HI.out.1 Tryz.underlying34 rfl size2V) (by rfl) ?_
    refine ⟨HG.out, ?_⟩
    rw [HD.out]
    try rfl
  rw [if_neg (by omega)] at hrd
  have e3b : ((q1 : Int) == n) = false := beq_false_of_ne (by omega)
  have e3c : ¬ (q1 : Int) = n := by omega
  have hq1i : (q1 : Int) < n := by omega
  clear e3
  have hy1 : ∀ h : q1 < LB.size, (LB[q1]).toNat = nb f (q + 1) := by rw [hq1]; exact HBY.out q1
  have HQ1 := Lib.hid hq1; clear hq1
  have hx1 := nb_lt f (q + 1)
  rw [show ((f.getD (q + 1) 0).toNat) = nb f (q + 1) from rfl] at hrd
  generalize nb f (q + 1) = c at hy1 hx1 hrd
  have hcode : c < 256 := by omega
  have HRD := Lib.hid hrd; clear hrd
  go_wp2_with fail
  refine (refused15_any c w1 hcode).mono ?_
  rintro e w1' ⟨rfl, rfl⟩
  obtain ⟨rc, hrc⟩ : ∃ rc, refM c = rc := ⟨_, rfl⟩
  have hrd := HRD.out
  rw [hrc] at hrd ⊢
  clear HRD
  by_cases e4 : rc = 0
  case neg =>
    rw [if_pos e4] at hrd
    have HD := Lib.hid hrd; clear hrd
    have e4b : ((rc : Int) != 0) = true := by simpa using e4
    have e4c : ¬ ((rc : Int) = 0) := by omega
    clear hrc
    go_wp2_with fail
    refine (fault15_any (rc : Int) (q : Int) w1).mono ?_
    rintro e wz ⟨rfl, hbz⟩
    have hRz := hR.kept hbz
    have hFz := (hF.kept hbz).rowFar (ds := (segC SegM.none_ nilS nilS nilS nilS nilS)) (g' := r0) (by have := HR0.out; omega)
    have hR3z := ((hRz.row (ds := (segC SegM.none_ nilS nilS nilS nilS nilS))).far (p := ⟨r1, 0, none⟩) (show r0 ≠ r1 by have := HR0.out; omega) (.int .i64 (rc : Int))).far (p := ⟨r1, 1, none⟩) (show r0 ≠ r1 by have := HR0.out; omega) (.int .i64 (q : Int))
    have hF3z : Blk (((wz.setRow r0 (segC SegM.none_ nilS nilS nilS nilS nilS)).setCell ⟨r1, 0, none⟩ (.int .i64 (rc : Int))).setCell ⟨r1, 1, none⟩ (.int .i64 (q : Int))) r1 34 #[.int .i64 (rc : Int), .int .i64 (q : Int)] := (hFz.set 0 (.int .i64 (rc : Int))).set 1 (.int .i64 (q : Int))
    have kc0 : (wz.setRow r0 (segC SegM.none_ nilS nilS nilS nilS nilS)).cell? ⟨r1, 0, none⟩ = some (.int .i64 0) := by rw [hFz.cell]; rfl
    have kc1 : (wz.setRow r0 (segC SegM.none_ nilS nilS nilS nilS nilS)).cell? ⟨r1, 1, none⟩ = some (.int .i64 0) := by rw [hFz.cell]; rfl
    have kf0 : (wz.setRow r0 (segC SegM.none_ nilS nilS nilS nilS nilS)).frozen? ⟨r1, 0, none⟩ = false := hFz.frozen _
    have kf1 : (wz.setRow r0 (segC SegM.none_ nilS nilS nilS nilS nilS)).frozen? ⟨r1, 1, none⟩ = false := hFz.frozen _
    have hb4z : Below w.heap.size w (((wz.setRow r0 (segC SegM.none_ nilS nilS nilS nilS nilS)).setCell ⟨r1, 0, none⟩ (.int .i64 (rc : Int))).setCell ⟨r1, 1, none⟩ (.int .i64 (q : Int))) := ((grown_below (grown_row (below_grown (below_then hb1 hbz) none) (.inl (by have := HR0.out; omega)) _)).setCell (p := ⟨r1, 0, none⟩) (show w.heap.size ≤ r1 by have := HR0.out; omega) _).setCell (p := ⟨r1, 1, none⟩) (show w.heap.size ≤ r1 by have := HR0.out; omega) _
    have HG := Lib.hid hb4z; clear hb4z hbz
    go_wp2_with (first | (refine wpList_store_row rfl _ _ _ rfl _ (segC SegM.none_ nilS nilS nilS nilS nilS) rfl rfl _ _ hRz HI.out.1 rfl HI.out.2 ?_))
    refine bodyPost_ret (results_cells (by rfl) _ _ r0 r1 31 34 _ _ _ _ _ _ (by rfl) (by rfl) hR3z hF3z Tryz.underlying31 rfl HI.out.1 Tryz.underlying34 rfl size2V) (by rfl) ?_
    refine ⟨HG.out, ?_⟩
    rw [HD.out]
    try rfl
  subst e4
  rw [if_neg (by simp)] at hrd
  clear hrc
  have HRD := Lib.hid hrd; clear hrd
  go_wp2_with fail
  refine (may15_any c w1 hcode).mono ?_
  rintro e w1' ⟨rfl, rfl⟩
  obtain ⟨mb, hmb⟩ : ∃ b, mayM c = b := ⟨_, rfl⟩
  have hrd := HRD.out
  rw [hmb] at hrd ⊢
  clear HRD hmb
  cases mb
  · rw [if_pos rfl] at hrd
    have HD := Lib.hid hrd; clear hrd
    go_wp2_with fail
    refine (fault15_any 151 (q : Int) w1).mono ?_
    rintro e wz ⟨rfl, hbz⟩
    have hRz := hR.kept hbz
    have hFz := (hF.kept hbz).rowFar (ds := (segC SegM.none_ nilS nilS nilS nilS nilS)) (g' := r0) (by have := HR0.out; omega)
    have hR3z := ((hRz.row (ds := (segC SegM.none_ nilS nilS nilS nilS nilS))).far (p := ⟨r1, 0, none⟩) (show r0 ≠ r1 by have := HR0.out; omega) (.int .i64 151)).far (p := ⟨r1, 1, none⟩) (show r0 ≠ r1 by have := HR0.out; omega) (.int .i64 (q : Int))
    have hF3z : Blk (((wz.setRow r0 (segC SegM.none_ nilS nilS nilS nilS nilS)).setCell ⟨r1, 0, none⟩ (.int .i64 151)).setCell ⟨r1, 1, none⟩ (.int .i64 (q : Int))) r1 34 #[.int .i64 151, .int .i64 (q : Int)] := (hFz.set 0 (.int .i64 151)).set 1 (.int .i64 (q : Int))
    have kc0 : (wz.setRow r0 (segC SegM.none_ nilS nilS nilS nilS nilS)).cell? ⟨r1, 0, none⟩ = some (.int .i64 0) := by rw [hFz.cell]; rfl
    have kc1 : (wz.setRow r0 (segC SegM.none_ nilS nilS nilS nilS nilS)).cell? ⟨r1, 1, none⟩ = some (.int .i64 0) := by rw [hFz.cell]; rfl
    have kf0 : (wz.setRow r0 (segC SegM.none_ nilS nilS nilS nilS nilS)).frozen? ⟨r1, 0, none⟩ = false := hFz.frozen _
    have kf1 : (wz.setRow r0 (segC SegM.none_ nilS nilS nilS nilS nilS)).frozen? ⟨r1, 1, none⟩ = false := hFz.frozen _
    have hb4z : Below w.heap.size w (((wz.setRow r0 (segC SegM.none_ nilS nilS nilS nilS nilS)).setCell ⟨r1, 0, none⟩ (.int .i64 151)).setCell ⟨r1, 1, none⟩ (.int .i64 (q : Int))) := ((grown_below (grown_row (below_grown (below_then hb1 hbz) none) (.inl (by have := HR0.out; omega)) _)).setCell (p := ⟨r1, 0, none⟩) (show w.heap.size ≤ r1 by have := HR0.out; omega) _).setCell (p := ⟨r1, 1, none⟩) (show w.heap.size ≤ r1 by have := HR0.out; omega) _
    have HG := Lib.hid hb4z; clear hb4z hbz
    go_wp2_with (first | (refine wpList_store_row rfl _ _ _ rfl _ (segC SegM.none_ nilS nilS nilS nilS nilS) rfl rfl _ _ hRz HI.out.1 rfl HI.out.2 ?_))
    refine bodyPost_ret (results_cells (by rfl) _ _ r0 r1 31 34 _ _ _ _ _ _ (by rfl) (by rfl) hR3z hF3z Tryz.underlying31 rfl HI.out.1 Tryz.underlying34 rfl size2V) (by rfl) ?_
    refine ⟨HG.out, ?_⟩
    rw [HD.out]
    try rfl
  rw [if_neg (by simp)] at hrd
  obtain ⟨q4, hq4⟩ : ∃ q4, q + 4 = q4 := ⟨_, rfl⟩
  have hw5 : IntKind.i64.wrap ((q : Int) + 4) = (q4 : Int) := by rw [IntWalk.i64_in _ (by omega)]; omega
  by_cases e5 : (n : Int) < (q : Int) + 4
  · rw [if_pos e5] at hrd
    have HD := Lib.hid hrd; clear hrd
    have e5b : (n : Int) < (q4 : Int) := by omega
    clear e5
    go_wp2_with fail
    refine (fault15_any 44 (n : Int) w1).mono ?_
    rintro e wz ⟨rfl, hbz⟩
    have hRz := hR.kept hbz
    have hFz := (hF.kept hbz).rowFar (ds := (segC SegM.none_ nilS nilS nilS nilS nilS)) (g' := r0) (by have := HR0.out; omega)
    have hR3z := ((hRz.row (ds := (segC SegM.none_ nilS nilS nilS nilS nilS))).far (p := ⟨r1, 0, none⟩) (show r0 ≠ r1 by have := HR0.out; omega) (.int .i64 44)).far (p := ⟨r1, 1, none⟩) (show r0 ≠ r1 by have := HR0.out; omega) (.int .i64 (n : Int))
    have hF3z : Blk (((wz.setRow r0 (segC SegM.none_ nilS nilS nilS nilS nilS)).setCell ⟨r1, 0, none⟩ (.int .i64 44)).setCell ⟨r1, 1, none⟩ (.int .i64 (n : Int))) r1 34 #[.int .i64 44, .int .i64 (n : Int)] := (hFz.set 0 (.int .i64 44)).set 1 (.int .i64 (n : Int))
    have kc0 : (wz.setRow r0 (segC SegM.none_ nilS nilS nilS nilS nilS)).cell? ⟨r1, 0, none⟩ = some (.int .i64 0) := by rw [hFz.cell]; rfl
    have kc1 : (wz.setRow r0 (segC SegM.none_ nilS nilS nilS nilS nilS)).cell? ⟨r1, 1, none⟩ = some (.int .i64 0) := by rw [hFz.cell]; rfl
    have kf0 : (wz.setRow r0 (segC SegM.none_ nilS nilS nilS nilS nilS)).frozen? ⟨r1, 0, none⟩ = false := hFz.frozen _
    have kf1 : (wz.setRow r0 (segC SegM.none_ nilS nilS nilS nilS nilS)).frozen? ⟨r1, 1, none⟩ = false := hFz.frozen _
    have hb4z : Below w.heap.size w (((wz.setRow r0 (segC SegM.none_ nilS nilS nilS nilS nilS)).setCell ⟨r1, 0, none⟩ (.int .i64 44)).setCell ⟨r1, 1, none⟩ (.int .i64 (n : Int))) := ((grown_below (grown_row (below_grown (below_then hb1 hbz) none) (.inl (by have := HR0.out; omega)) _)).setCell (p := ⟨r1, 0, none⟩) (show w.heap.size ≤ r1 by have := HR0.out; omega) _).setCell (p := ⟨r1, 1, none⟩) (show w.heap.size ≤ r1 by have := HR0.out; omega) _
    have HG := Lib.hid hb4z; clear hb4z hbz
    go_wp2_with (first | (refine wpList_store_row rfl _ _ _ rfl _ (segC SegM.none_ nilS nilS nilS nilS nilS) rfl rfl _ _ hRz HI.out.1 rfl HI.out.2 ?_))
    refine bodyPost_ret (results_cells (by rfl) _ _ r0 r1 31 34 _ _ _ _ _ _ (by rfl) (by rfl) hR3z hF3z Tryz.underlying31 rfl HI.out.1 Tryz.underlying34 rfl size2V) (by rfl) ?_
    refine ⟨HG.out, ?_⟩
    rw [HD.out]
    try rfl
  rw [if_neg e5] at hrd
  have e5b : ¬ (n : Int) < (q4 : Int) := by omega
  clear hyq hqi hq0 hxq e3b e3c
  obtain ⟨q2, hq2⟩ : ∃ q2, q + 2 = q2 := ⟨_, rfl⟩
  obtain ⟨q3, hq3⟩ : ∃ q3, q + 3 = q3 := ⟨_, rfl⟩
  have hq2i : (q2 : Int) < n := by omega
  have hw2 : IntKind.i64.wrap ((q : Int) + 2) = (q2 : Int) := by rw [IntWalk.i64_in _ (by omega)]; omega
  have hy2 : ∀ h : q2 < LB.size, (LB[q2]).toNat = nb f (q + 2) := by rw [hq2]; exact HBY.out q2
  have hx2 := nb_lt f (q + 2)
  have hq3i : (q3 : Int) < n := by omega
  have hw3 : IntKind.i64.wrap ((q : Int) + 3) = (q3 : Int) := by rw [IntWalk.i64_in _ (by omega)]; omega
  have hy3 : ∀ h : q3 < LB.size, (LB[q3]).toNat = nb f (q + 3) := by rw [hq3]; exact HBY.out q3
  have hx3 := nb_lt f (q + 3)
  rw [show two (f.getD (q + 2) 0) (f.getD (q + 3) 0) = 256 * nb f (q + 2) + nb f (q + 3) from rfl] at hrd
  generalize nb f (q + 2) = B2 at hy2 hx2 hrd
  generalize nb f (q + 3) = B3 at hy3 hx3 hrd
  have hwc : IntKind.i64.wrap (256 * (B2 : Int)) = 256 * (B2 : Int) := IntWalk.i64_in _ (by omega)
  have hor : IntKind.i64.wrap (256 * (B2 : Int) + (B3 : Int)) = 256 * (B2 : Int) + (B3 : Int) := IntWalk.i64_in _ (by omega)
  have hwx2 : IntKind.i64.wrap (B2 : Int) = B2 := IntWalk.i64_in _ (by omega)
  have hwx3 : IntKind.i64.wrap (B3 : Int) = B3 := IntWalk.i64_in _ (by omega)
  have HRD := Lib.hid hrd; clear hrd
  have HQ2 := Lib.hid (And.intro hq2 (And.intro hq3 (And.intro e5 hq4))); clear hq2 hq3 e5 hq4
  go_upto_region 19 with fail
  refine Lex3.wp_region_lex [] (fun u => True) (fun u n h => h) trivial (by kernel_rfl) (by kernel_rfl) ?_
  try simp only [Act.put, zA, zB, zC]
  iterate 13 (refine Lex3.run_free (v := ?_) (by rfl) (by rfl) (fun u => ?_) ?_; rotate_left; (go_simp; try with_reducible rfl); simp only [Act.put, zA, zB, zC])

  refine Lex3.run_nil (fun n3 => ?_)
  have hR2 : Blk (w1.drew.drewN n3) r0 31 #[.int .u8 0, .int .i64 0, .int .i64 0, .slice none 0 0, .slice none 0 0, .int .u8 0, .int .i64 0, .int .i64 0, .slice none 0 0, .slice none 0 0, .slice none 0 0, .int .i64 0, .string (ByteArray.mk #[])] := hR
  have hF2 : Blk (w1.drew.drewN n3) r1 34 #[.int .i64 0, .int .i64 0] := hF
  have hb2 : Below w.heap.size w (w1.drew.drewN n3) := below_drewN (below_drewN hb1 1) n3
  clear hR hF hb1
  generalize w1.drew.drewN n3 = w2 at hR2 hF2 hb2 ⊢
  obtain ⟨L, hL2⟩ : ∃ L : Nat, 256 * B2 + B3 = L := ⟨_, rfl⟩
  have hLI : 256 * (B2 : Int) + (B3 : Int) = (L : Int) := by omega
  have hLb : L ≤ 65535 := by omega
  have hrd := HRD.out
  rw [hL2] at hrd
  clear HRD
  rw [hLI] at hor ⊢
  clear hLI hL2 hor hwc hwx2 hwx3 hx2 hx3 hy2 hy3 hq3i hw3
  rw [show (q : Int) + 2 = (q2 : Int) by have := HQ2.out; omega] at hrd
  by_cases e6 : L < 2
  · rw [if_pos e6] at hrd
    have HD := Lib.hid hrd; clear hrd
    have e6b : (L : Int) < 2 := by omega
    go_wp2_with fail
    refine (fault15_any 152 (q2 : Int) w2).mono ?_
    rintro e wz ⟨rfl, hbz⟩
    have hRz := hR2.kept hbz
    have hFz := (hF2.kept hbz).rowFar (ds := (segC SegM.none_ nilS nilS nilS nilS nilS)) (g' := r0) (by have := HR0.out; omega)
    have hR3z := ((hRz.row (ds := (segC SegM.none_ nilS nilS nilS nilS nilS))).far (p := ⟨r1, 0, none⟩) (show r0 ≠ r1 by have := HR0.out; omega) (.int .i64 152)).far (p := ⟨r1, 1, none⟩) (show r0 ≠ r1 by have := HR0.out; omega) (.int .i64 (q2 : Int))
    have hF3z : Blk (((wz.setRow r0 (segC SegM.none_ nilS nilS nilS nilS nilS)).setCell ⟨r1, 0, none⟩ (.int .i64 152)).setCell ⟨r1, 1, none⟩ (.int .i64 (q2 : Int))) r1 34 #[.int .i64 152, .int .i64 (q2 : Int)] := (hFz.set 0 (.int .i64 152)).set 1 (.int .i64 (q2 : Int))
    have kc0 : (wz.setRow r0 (segC SegM.none_ nilS nilS nilS nilS nilS)).cell? ⟨r1, 0, none⟩ = some (.int .i64 0) := by rw [hFz.cell]; rfl
    have kc1 : (wz.setRow r0 (segC SegM.none_ nilS nilS nilS nilS nilS)).cell? ⟨r1, 1, none⟩ = some (.int .i64 0) := by rw [hFz.cell]; rfl
    have kf0 : (wz.setRow r0 (segC SegM.none_ nilS nilS nilS nilS nilS)).frozen? ⟨r1, 0, none⟩ = false := hFz.frozen _
    have kf1 : (wz.setRow r0 (segC SegM.none_ nilS nilS nilS nilS nilS)).frozen? ⟨r1, 1, none⟩ = false := hFz.frozen _
    have hb4z : Below w.heap.size w (((wz.setRow r0 (segC SegM.none_ nilS nilS nilS nilS nilS)).setCell ⟨r1, 0, none⟩ (.int .i64 152)).setCell ⟨r1, 1, none⟩ (.int .i64 (q2 : Int))) := ((grown_below (grown_row (below_grown (below_then hb2 hbz) none) (.inl (by have := HR0.out; omega)) _)).setCell (p := ⟨r1, 0, none⟩) (show w.heap.size ≤ r1 by have := HR0.out; omega) _).setCell (p := ⟨r1, 1, none⟩) (show w.heap.size ≤ r1 by have := HR0.out; omega) _
    have HG := Lib.hid hb4z; clear hb4z hbz
    go_wp2_with (first | (refine wpList_store_row rfl _ _ _ rfl _ (segC SegM.none_ nilS nilS nilS nilS nilS) rfl rfl _ _ hRz HI.out.1 rfl HI.out.2 ?_))
    refine bodyPost_ret (results_cells (by rfl) _ _ r0 r1 31 34 _ _ _ _ _ _ (by rfl) (by rfl) hR3z hF3z Tryz.underlying31 rfl HI.out.1 Tryz.underlying34 rfl size2V) (by rfl) ?_
    refine ⟨HG.out, ?_⟩
    rw [HD.out]
    try rfl
  rw [if_neg e6] at hrd
  have e6b : ¬ (L : Int) < 2 := by omega
  obtain ⟨en, hen⟩ : ∃ en, q2 + L = en := ⟨_, rfl⟩
  have hw4 : IntKind.i64.wrap ((q2 : Int) + (L : Int)) = (en : Int) := by rw [IntWalk.i64_in _ (by omega)]; omega
  rw [show (q2 : Int) + ((L : Nat) : Int) = (en : Int) by omega] at hrd
  have HEN := Lib.hid (And.intro hen hLb); clear hen
  by_cases e7 : (n : Int) < (en : Int)
  · rw [if_pos e7] at hrd
    have HD := Lib.hid hrd; clear hrd
    go_wp2_with fail
    refine (fault15_any 44 (n : Int) w2).mono ?_
    rintro e wz ⟨rfl, hbz⟩
    have hRz := hR2.kept hbz
    have hFz := (hF2.kept hbz).rowFar (ds := (segC SegM.none_ nilS nilS nilS nilS nilS)) (g' := r0) (by have := HR0.out; omega)
    have hR3z := ((hRz.row (ds := (segC SegM.none_ nilS nilS nilS nilS nilS))).far (p := ⟨r1, 0, none⟩) (show r0 ≠ r1 by have := HR0.out; omega) (.int .i64 44)).far (p := ⟨r1, 1, none⟩) (show r0 ≠ r1 by have := HR0.out; omega) (.int .i64 (n : Int))
    have hF3z : Blk (((wz.setRow r0 (segC SegM.none_ nilS nilS nilS nilS nilS)).setCell ⟨r1, 0, none⟩ (.int .i64 44)).setCell ⟨r1, 1, none⟩ (.int .i64 (n : Int))) r1 34 #[.int .i64 44, .int .i64 (n : Int)] := (hFz.set 0 (.int .i64 44)).set 1 (.int .i64 (n : Int))
    have kc0 : (wz.setRow r0 (segC SegM.none_ nilS nilS nilS nilS nilS)).cell? ⟨r1, 0, none⟩ = some (.int .i64 0) := by rw [hFz.cell]; rfl
    have kc1 : (wz.setRow r0 (segC SegM.none_ nilS nilS nilS nilS nilS)).cell? ⟨r1, 1, none⟩ = some (.int .i64 0) := by rw [hFz.cell]; rfl
    have kf0 : (wz.setRow r0 (segC SegM.none_ nilS nilS nilS nilS nilS)).frozen? ⟨r1, 0, none⟩ = false := hFz.frozen _
    have kf1 : (wz.setRow r0 (segC SegM.none_ nilS nilS nilS nilS nilS)).frozen? ⟨r1, 1, none⟩ = false := hFz.frozen _
    have hb4z : Below w.heap.size w (((wz.setRow r0 (segC SegM.none_ nilS nilS nilS nilS nilS)).setCell ⟨r1, 0, none⟩ (.int .i64 44)).setCell ⟨r1, 1, none⟩ (.int .i64 (n : Int))) := ((grown_below (grown_row (below_grown (below_then hb2 hbz) none) (.inl (by have := HR0.out; omega)) _)).setCell (p := ⟨r1, 0, none⟩) (show w.heap.size ≤ r1 by have := HR0.out; omega) _).setCell (p := ⟨r1, 1, none⟩) (show w.heap.size ≤ r1 by have := HR0.out; omega) _
    have HG := Lib.hid hb4z; clear hb4z hbz
    go_wp2_with (first | (refine wpList_store_row rfl _ _ _ rfl _ (segC SegM.none_ nilS nilS nilS nilS nilS) rfl rfl _ _ hRz HI.out.1 rfl HI.out.2 ?_))
    refine bodyPost_ret (results_cells (by rfl) _ _ r0 r1 31 34 _ _ _ _ _ _ (by rfl) (by rfl) hR3z hF3z Tryz.underlying31 rfl HI.out.1 Tryz.underlying34 rfl size2V) (by rfl) ?_
    refine ⟨HG.out, ?_⟩
    rw [HD.out]
    try rfl
  rw [if_neg e7] at hrd
  have hq4 : q + 4 = q4 := HQ2.out.2.2.2
  have hq4i : (q4 : Int) ≤ (en : Int) := by have := HQ2.out; have := HEN.out; omega
  have hend2 : (en : Int) ≤ n := by omega
  have hcc := HCUT.out q4 en
  rw [show en - q4 = L - 2 by have := HQ2.out; have := HEN.out; omega] at hcc
  rw [hq4] at hrd
  clear hq4
  generalize hdd : (f.drop q4).take (L - 2) = d at hcc hrd
  have hdl : d.length ≤ 65535 := by rw [← hdd, List.length_take]; omega
  clear hdd
  have HRD := Lib.hid hrd; clear hrd
  clear e6 hLb
  have HCALL := Lib.hid (contents_any c d w2 hcode hdl)
  go_wp2_with fail
  refine HCALL.out.mono ?_
  intro e w4 he
  clear HCALL hq4i hend2 hcc e7
  unfold CtP at he
  obtain ⟨hb4, he⟩ := he
  have hR4 := hR2.kept hb4
  have hF4 := hF2.kept hb4
  have hz4 : r1 < w2.heap.size := hF2.lt
  have hb5 := below_then hb2 hb4
  have HZ4 := Lib.hid (And.intro hz4 hb4.size); clear hz4 hR2 hF2 hb2 hb4
  have hcM := HRD.out
  cases hT : contM c d with
  | bad cc =>
    rw [hT] at he hcM
    have hc0 := contM_nz hT
    subst he
    have hrd : RR = .fault cc (if cc = 152 then (q2 : Int) else (q : Int)) := hcM
    have HRR := Lib.hid hrd; clear hrd hcM hT HRD
    go_upto_region 25 with (refine wpList_store_row rfl _ _ _ rfl _ (segC SegM.none_ nilS nilS nilS nilS nilS) rfl rfl _ _ (Blk.new _ _ _) HI.out.1 rfl HI.out.2 ?_)
    have hR5 := (hR4.alloc (.cells #[.int .u8 0, .int .i64 0, .int .i64 0, .slice none 0 0, .slice none 0 0, .int .u8 0, .int .i64 0, .int .i64 0, .slice none 0 0, .slice none 0 0, .slice none 0 0, .int .i64 0, .string (ByteArray.mk #[])] 31)).rowFar (ds := (segC SegM.none_ nilS nilS nilS nilS nilS)) (g' := w4.heap.size) (by have := hR4.lt; omega)
    have hF5 := (hF4.alloc (.cells #[.int .u8 0, .int .i64 0, .int .i64 0, .slice none 0 0, .slice none 0 0, .int .u8 0, .int .i64 0, .int .i64 0, .slice none 0 0, .slice none 0 0, .slice none 0 0, .int .i64 0, .string (ByteArray.mk #[])] 31)).rowFar (ds := (segC SegM.none_ nilS nilS nilS nilS nilS)) (g' := w4.heap.size) (by have := hF4.lt; omega)
    have hb6 : Below w.heap.size w ((w4.alloc (.cells #[.int .u8 0, .int .i64 0, .int .i64 0, .slice none 0 0, .slice none 0 0, .int .u8 0, .int .i64 0, .int .i64 0, .slice none 0 0, .slice none 0 0, .slice none 0 0, .int .i64 0, .string (ByteArray.mk #[])] 31)).setRow w4.heap.size (segC SegM.none_ nilS nilS nilS nilS nilS)) := grown_below (grown_row (grown_alloc (below_grown hb5 none) _) (.inl hb5.size) _)
    clear hR4 hF4 hb5
    generalize (w4.alloc (.cells #[.int .u8 0, .int .i64 0, .int .i64 0, .slice none 0 0, .slice none 0 0, .int .u8 0, .int .i64 0, .int .i64 0, .slice none 0 0, .slice none 0 0, .slice none 0 0, .int .i64 0, .string (ByteArray.mk #[])] 31)).setRow w4.heap.size (segC SegM.none_ nilS nilS nilS nilS nilS) = w5 at hR5 hF5 hb6 ⊢
    by_cases e9 : cc = 152
    · have hrd := HRR.out
      rw [if_pos e9] at hrd
      have HD := Lib.hid hrd; clear hrd HRR
      subst e9
      go_wp2_with fail
      refine (fault15_any 152 (q2 : Int) w5).mono ?_
      rintro e wz ⟨rfl, hbz⟩
      have hRz := hR5.kept hbz
      have hFz := (hF5.kept hbz).rowFar (ds := (segC SegM.none_ nilS nilS nilS nilS nilS)) (g' := r0) (by have := HR0.out; omega)
      have hR3z := ((hRz.row (ds := (segC SegM.none_ nilS nilS nilS nilS nilS))).far (p := ⟨r1, 0, none⟩) (show r0 ≠ r1 by have := HR0.out; omega) (.int .i64 152)).far (p := ⟨r1, 1, none⟩) (show r0 ≠ r1 by have := HR0.out; omega) (.int .i64 (q2 : Int))
      have hF3z : Blk (((wz.setRow r0 (segC SegM.none_ nilS nilS nilS nilS nilS)).setCell ⟨r1, 0, none⟩ (.int .i64 152)).setCell ⟨r1, 1, none⟩ (.int .i64 (q2 : Int))) r1 34 #[.int .i64 152, .int .i64 (q2 : Int)] := (hFz.set 0 (.int .i64 152)).set 1 (.int .i64 (q2 : Int))
      have kc0 : (wz.setRow r0 (segC SegM.none_ nilS nilS nilS nilS nilS)).cell? ⟨r1, 0, none⟩ = some (.int .i64 0) := by rw [hFz.cell]; rfl
      have kc1 : (wz.setRow r0 (segC SegM.none_ nilS nilS nilS nilS nilS)).cell? ⟨r1, 1, none⟩ = some (.int .i64 0) := by rw [hFz.cell]; rfl
      have kf0 : (wz.setRow r0 (segC SegM.none_ nilS nilS nilS nilS nilS)).frozen? ⟨r1, 0, none⟩ = false := hFz.frozen _
      have kf1 : (wz.setRow r0 (segC SegM.none_ nilS nilS nilS nilS nilS)).frozen? ⟨r1, 1, none⟩ = false := hFz.frozen _
      have hb4z : Below w.heap.size w (((wz.setRow r0 (segC SegM.none_ nilS nilS nilS nilS nilS)).setCell ⟨r1, 0, none⟩ (.int .i64 152)).setCell ⟨r1, 1, none⟩ (.int .i64 (q2 : Int))) := ((grown_below (grown_row (below_grown (below_then hb6 hbz) none) (.inl (by have := HR0.out; omega)) _)).setCell (p := ⟨r1, 0, none⟩) (show w.heap.size ≤ r1 by have := HR0.out; omega) _).setCell (p := ⟨r1, 1, none⟩) (show w.heap.size ≤ r1 by have := HR0.out; omega) _
      have HG := Lib.hid hb4z; clear hb4z hbz
      go_wp2_with (first | (refine wpList_store_row rfl _ _ _ rfl _ (segC SegM.none_ nilS nilS nilS nilS nilS) rfl rfl _ _ hRz HI.out.1 rfl HI.out.2 ?_))
      refine bodyPost_ret (results_cells (by rfl) _ _ r0 r1 31 34 _ _ _ _ _ _ (by rfl) (by rfl) hR3z hF3z Tryz.underlying31 rfl HI.out.1 Tryz.underlying34 rfl size2V) (by rfl) ?_
      refine ⟨HG.out, ?_⟩
      rw [HD.out]
      try rfl
    · have hrd := HRR.out
      rw [if_neg e9] at hrd
      have HD := Lib.hid hrd; clear hrd HRR
      have e9b : ((cc : Int) == 152) = false := beq_false_of_ne (by omega)
      have e9c : ¬ (cc : Int) = 152 := by omega
      have e8b : ((cc : Int) != 0) = true := by simpa using hc0
      have e8c : ¬ (cc : Int) = 0 := by omega
      go_wp2_with fail
      refine (fault15_any (cc : Int) (q : Int) w5).mono ?_
      rintro e wz ⟨rfl, hbz⟩
      have hRz := hR5.kept hbz
      have hFz := (hF5.kept hbz).rowFar (ds := (segC SegM.none_ nilS nilS nilS nilS nilS)) (g' := r0) (by have := HR0.out; omega)
      have hR3z := ((hRz.row (ds := (segC SegM.none_ nilS nilS nilS nilS nilS))).far (p := ⟨r1, 0, none⟩) (show r0 ≠ r1 by have := HR0.out; omega) (.int .i64 (cc : Int))).far (p := ⟨r1, 1, none⟩) (show r0 ≠ r1 by have := HR0.out; omega) (.int .i64 (q : Int))
      have hF3z : Blk (((wz.setRow r0 (segC SegM.none_ nilS nilS nilS nilS nilS)).setCell ⟨r1, 0, none⟩ (.int .i64 (cc : Int))).setCell ⟨r1, 1, none⟩ (.int .i64 (q : Int))) r1 34 #[.int .i64 (cc : Int), .int .i64 (q : Int)] := (hFz.set 0 (.int .i64 (cc : Int))).set 1 (.int .i64 (q : Int))
      have kc0 : (wz.setRow r0 (segC SegM.none_ nilS nilS nilS nilS nilS)).cell? ⟨r1, 0, none⟩ = some (.int .i64 0) := by rw [hFz.cell]; rfl
      have kc1 : (wz.setRow r0 (segC SegM.none_ nilS nilS nilS nilS nilS)).cell? ⟨r1, 1, none⟩ = some (.int .i64 0) := by rw [hFz.cell]; rfl
      have kf0 : (wz.setRow r0 (segC SegM.none_ nilS nilS nilS nilS nilS)).frozen? ⟨r1, 0, none⟩ = false := hFz.frozen _
      have kf1 : (wz.setRow r0 (segC SegM.none_ nilS nilS nilS nilS nilS)).frozen? ⟨r1, 1, none⟩ = false := hFz.frozen _
      have hb4z : Below w.heap.size w (((wz.setRow r0 (segC SegM.none_ nilS nilS nilS nilS nilS)).setCell ⟨r1, 0, none⟩ (.int .i64 (cc : Int))).setCell ⟨r1, 1, none⟩ (.int .i64 (q : Int))) := ((grown_below (grown_row (below_grown (below_then hb6 hbz) none) (.inl (by have := HR0.out; omega)) _)).setCell (p := ⟨r1, 0, none⟩) (show w.heap.size ≤ r1 by have := HR0.out; omega) _).setCell (p := ⟨r1, 1, none⟩) (show w.heap.size ≤ r1 by have := HR0.out; omega) _
      have HG := Lib.hid hb4z; clear hb4z hbz
      go_wp2_with (first | (refine wpList_store_row rfl _ _ _ rfl _ (segC SegM.none_ nilS nilS nilS nilS nilS) rfl rfl _ _ hRz HI.out.1 rfl HI.out.2 ?_))
      refine bodyPost_ret (results_cells (by rfl) _ _ r0 r1 31 34 _ _ _ _ _ _ (by rfl) (by rfl) hR3z hF3z Tryz.underlying31 rfl HI.out.1 Tryz.underlying34 rfl size2V) (by rfl) ?_
      refine ⟨HG.out, ?_⟩
      rw [HD.out]
      try rfl
  | ok r =>
    rw [hT] at he hcM
    obtain ⟨vq, vh, vc, vp, vi, rfl, hLs⟩ := he
    have hrd : RR = .seg { r with at_ := (q : Int), end_ := (en : Int) } := hcM
    have HRR := Lib.hid hrd; clear hrd hcM hT HRD
    have HO := Lib.hid (at_one hLs.at_)
    have HLS := Lib.hid hLs; clear hLs
    go_upto_region 25 with (refine wpList_store_row rfl _ _ _ rfl _ (segC r vq vh vc vp vi) rfl rfl _ _ (Blk.new _ _ _) size13R rfl HO.out ?_)
    have hR5 := (hR4.alloc (.cells #[.int .u8 0, .int .i64 0, .int .i64 0, .slice none 0 0, .slice none 0 0, .int .u8 0, .int .i64 0, .int .i64 0, .slice none 0 0, .slice none 0 0, .slice none 0 0, .int .i64 0, .string (ByteArray.mk #[])] 31)).rowFar (ds := segC r vq vh vc vp vi) (g' := w4.heap.size) (by have := hR4.lt; omega)
    have hF5 := (hF4.alloc (.cells #[.int .u8 0, .int .i64 0, .int .i64 0, .slice none 0 0, .slice none 0 0, .int .u8 0, .int .i64 0, .int .i64 0, .slice none 0 0, .slice none 0 0, .slice none 0 0, .int .i64 0, .string (ByteArray.mk #[])] 31)).rowFar (ds := segC r vq vh vc vp vi) (g' := w4.heap.size) (by have := hF4.lt; omega)
    have hS5 : Blk ((w4.alloc (.cells #[.int .u8 0, .int .i64 0, .int .i64 0, .slice none 0 0, .slice none 0 0, .int .u8 0, .int .i64 0, .int .i64 0, .slice none 0 0, .slice none 0 0, .slice none 0 0, .int .i64 0, .string (ByteArray.mk #[])] 31)).setRow w4.heap.size (segC r vq vh vc vp vi)) w4.heap.size 31 (segC r vq vh vc vp vi) := (Blk.new w4 31 #[.int .u8 0, .int .i64 0, .int .i64 0, .slice none 0 0, .slice none 0 0, .int .u8 0, .int .i64 0, .int .i64 0, .slice none 0 0, .slice none 0 0, .slice none 0 0, .int .i64 0, .string (ByteArray.mk #[])]).row
    have hk5 : Below w4.heap.size w4 ((w4.alloc (.cells #[.int .u8 0, .int .i64 0, .int .i64 0, .slice none 0 0, .slice none 0 0, .int .u8 0, .int .i64 0, .int .i64 0, .slice none 0 0, .slice none 0 0, .slice none 0 0, .int .i64 0, .string (ByteArray.mk #[])] 31)).setRow w4.heap.size (segC r vq vh vc vp vi)) := grown_below (grown_row (grown_alloc (grown_of_below (Below.refl _ _) none) _) (.inl (Nat.le_refl _)) _)
    have HB5 := Lib.hid hb5
    obtain ⟨x, hx⟩ : ∃ x, w4.heap.size = x := ⟨_, rfl⟩
    have hF4l := hF4.lt
    clear hR4 hF4 hb5
    rw [hx] at hR5 hF5 hS5 hk5 hF4l
    simp only [hx]
    have HX := Lib.hid (And.intro hx hF4l); clear hx hF4l
    generalize (w4.alloc (.cells #[.int .u8 0, .int .i64 0, .int .i64 0, .slice none 0 0, .slice none 0 0, .int .u8 0, .int .i64 0, .int .i64 0, .slice none 0 0, .slice none 0 0, .slice none 0 0, .int .i64 0, .string (ByteArray.mk #[])] 31)).setRow x (segC r vq vh vc vp vi) = w5 at hR5 hF5 hS5 hk5 ⊢
    have a1 : w5.cell? ⟨x, 1, none⟩ = some (.int .i64 r.at_) := by rw [hS5.cell]; rfl
    have b1 : w5.frozen? ⟨x, 1, none⟩ = false := hS5.frozen _
    have a2 : w5.cell? ⟨x, 2, none⟩ = some (.int .i64 r.end_) := by rw [hS5.cell]; rfl
    have b2 : w5.frozen? ⟨x, 2, none⟩ = false := hS5.frozen _
    go_upto_region 31 with fail
    have hS6 : Blk ((w5.setCell ⟨x, 1, none⟩ (.int .i64 (q : Int))).setCell ⟨x, 2, none⟩ (.int .i64 (en : Int))) x 31 (segC { r with at_ := (q : Int), end_ := (en : Int) } vq vh vc vp vi) := (hS5.set 1 (.int .i64 (q : Int))).set 2 (.int .i64 (en : Int))
    have hR6 := (hR5.far (p := ⟨x, 1, none⟩) (show r0 ≠ x by have := HR0.out; have := HX.out; omega) (.int .i64 (q : Int))).far (p := ⟨x, 2, none⟩) (show r0 ≠ x by have := HR0.out; have := HX.out; omega) (.int .i64 (en : Int))
    have hF6 := (hF5.far (p := ⟨x, 1, none⟩) (show r1 ≠ x by have := HR0.out; have := HX.out; omega) (.int .i64 (q : Int))).far (p := ⟨x, 2, none⟩) (show r1 ≠ x by have := HR0.out; have := HX.out; omega) (.int .i64 (en : Int))
    have hk6 := (hk5.setCell (p := ⟨x, 1, none⟩) (Nat.le_refl x) (.int .i64 (q : Int))).setCell (p := ⟨x, 2, none⟩) (Nat.le_refl x) (.int .i64 (en : Int))
    clear hR5 hF5 hS5 hk5 a1 b1 a2 b2
    generalize (w5.setCell ⟨x, 1, none⟩ (.int .i64 (q : Int))).setCell ⟨x, 2, none⟩ (.int .i64 (en : Int)) = w6 at hR6 hF6 hS6 hk6 ⊢
    have hk6 : Below w4.heap.size w4 w6 := by rw [HX.out.1]; exact hk6
    have hLs : ListsL w2.heap.size w6 { r with at_ := (q : Int), end_ := (en : Int) } vq vh vc vp vi := by
      obtain ⟨l1, l2, l3, l4, l5⟩ := HLS.out.below hk6
      exact ⟨l1, l2, l3, l4, l5⟩
    have hb6 := below_then HB5.out hk6
    have hone : (segC { r with at_ := (q : Int), end_ := (en : Int) } vq vh vc vp vi).all (·.oneCell') = true := at_one hLs.at_
    have hsz9 : (Tryz.prog.info? 31).map (·.size) = some (segC { r with at_ := (q : Int), end_ := (en : Int) } vq vh vc vp vi).size := size13R
    generalize ({ r with at_ := (q : Int), end_ := (en : Int) } : SegM) = mm at hone hS6 hsz9 hLs HRR
    obtain ⟨sv, hsv⟩ : ∃ sv, segC mm vq vh vc vp vi = sv := ⟨_, rfl⟩
    rw [hsv] at hone hS6 hsz9
    have HSV := Lib.hid (And.intro hsv (And.intro hone hsz9)); clear hsv hone hsz9
    have hl9 : ListsL w.heap.size (((w6.setRow r0 sv).setCell ⟨r1, 0, none⟩ (.int .i64 0)).setCell ⟨r1, 1, none⟩ (.int .i64 0)) mm vq vh vc vp vi := (hLs.keep fun g hg _ => ((Below.heap_setCell _ _ _ g (show g ≠ r1 by have := HZ4.out; omega)).trans (Below.heap_setCell _ _ _ g (show g ≠ r1 by have := HZ4.out; omega))).trans (setRow_other w6 r0 g _ (by have := HZ4.out; have := HR0.out; omega))).mono (by have := HZ4.out; have := HR0.out; omega)
    have hF7 := hF6.rowFar (ds := sv) (g' := r0) (by have := HR0.out; omega)
    have hR7 := ((hR6.row (ds := sv)).far (p := ⟨r1, 0, none⟩) (show r0 ≠ r1 by have := HR0.out; omega) (.int .i64 0)).far (p := ⟨r1, 1, none⟩) (show r0 ≠ r1 by have := HR0.out; omega) (.int .i64 0)
    have hF8 : Blk (((w6.setRow r0 sv).setCell ⟨r1, 0, none⟩ (.int .i64 0)).setCell ⟨r1, 1, none⟩ (.int .i64 0)) r1 34 #[.int .i64 0, .int .i64 0] := (hF7.set 0 (.int .i64 0)).set 1 (.int .i64 0)
    have kc0 : (w6.setRow r0 sv).cell? ⟨r1, 0, none⟩ = some (.int .i64 0) := by rw [hF7.cell]; rfl
    have kc1 : (w6.setRow r0 sv).cell? ⟨r1, 1, none⟩ = some (.int .i64 0) := by rw [hF7.cell]; rfl
    have kf0 : (w6.setRow r0 sv).frozen? ⟨r1, 0, none⟩ = false := hF7.frozen _
    have kf1 : (w6.setRow r0 sv).frozen? ⟨r1, 1, none⟩ = false := hF7.frozen _
    have hb7 : Below w.heap.size w (((w6.setRow r0 sv).setCell ⟨r1, 0, none⟩ (.int .i64 0)).setCell ⟨r1, 1, none⟩ (.int .i64 0)) := ((grown_below (grown_row (below_grown hb6 none) (.inl (by have := HR0.out; omega)) _)).setCell (p := ⟨r1, 0, none⟩) (show w.heap.size ≤ r1 by have := HR0.out; omega) _).setCell (p := ⟨r1, 1, none⟩) (show w.heap.size ≤ r1 by have := HR0.out; omega) _
    have HG := Lib.hid (And.intro hb7 hl9); clear hb7 hl9 hb6 hLs hk6
    go_wp2_with (first | (refine wpList_load_row rfl _ _ rfl x rfl _ _ _ _ hS6 Tryz.underlying31 rfl HSV.out.2.2 ?_) | (refine wpList_store_row rfl _ _ _ rfl _ _ rfl rfl _ _ hR6 HSV.out.2.2 (by rw [← HSV.out.1]; rfl) HSV.out.2.1 ?_))
    refine bodyPost_ret (results_cells (by rfl) _ _ r0 r1 31 34 _ _ _ _ _ _ (by rfl) (by rfl) hR7 hF8 Tryz.underlying31 rfl HSV.out.2.2 Tryz.underlying34 rfl size2V) (by rfl) ?_
    refine ⟨HG.out.1, ?_⟩
    rw [HRR.out]
    exact ⟨vq, vh, vc, vp, vi, by rw [HSV.out.1], HG.out.2⟩
end Go.Proofs.YtjfgfoeenajneaaGreatDoor.Sg
