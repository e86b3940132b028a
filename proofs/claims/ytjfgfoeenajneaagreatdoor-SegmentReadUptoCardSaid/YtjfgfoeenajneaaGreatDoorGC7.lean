/- The program reads a segment. -/
import Derived.Test.YtjfgfoeenajneaaGreatDoorGC6
import Derived.Test.YtjfgfoeenajneaaGreatDoorGC5
import Derived.Test.YtjfgfoeenajneaaGreatDoorGB0
namespace Go.Proofs.YtjfgfoeenajneaaGreatDoor.Sg
open Go.RowKit
open Go.Proofs.YtjfgfoeenajneaaGreatDoor.Lex (F)

def ReadP (r : Read) (w : World) (e : Ending) (w' : World) : Prop :=
  Below w.heap.size w w' ∧ match r with
  | .fault c p => ∃ g, e = .returned (.tuple #[.agg (segC SegM.none_ nilS nilS nilS nilS nilS), .iface 67 (.pointer (some ⟨g, 0, none⟩))]) ∧ w.heap.size ≤ g ∧ Blk w' g 34 #[.int .i64 (c : Int), .int .i64 p]
  | .seg m => ∃ vq vh vc vp vi, e = .returned (.tuple #[.agg (segC m vq vh vc vp vi), .nilIface]) ∧ Lists w.heap.size w' m vq vh vc vp vi
theorem one13 (m : SegM) (vq vh vc vp vi : Value) (h1 : vq.oneCell' = true) (h2 : vh.oneCell' = true) (h3 : vc.oneCell' = true) (h4 : vp.oneCell' = true) (h5 : vi.oneCell' = true) : (segC m vq vh vc vp vi).all (·.oneCell') = true := by
  unfold segC
  refine all_oneCell_toArray (cs := [.int .u8 (m.code : Nat), .int .i64 m.at_, .int .i64 m.end_, vq, vh, .int .u8 (m.kind : Nat), .int .i64 m.width, .int .i64 m.height, vc, vp, vi, .int .i64 m.restart, .string (Bs m.data)]) ?_
  intro u hu
  simp only [List.mem_cons, List.not_mem_nil, or_false] at hu
  rcases hu with rfl | rfl | rfl | rfl | rfl | rfl | rfl | rfl | rfl | rfl | rfl | rfl | rfl <;> first | rfl | assumption
theorem own_one {u : World} {base : Nat} {e : TypeId} {z n : Nat} {v : Value} {xs : List Value} (h : u.ownsRow base e z v n xs) : v.oneCell' = true := by
  obtain ⟨A, c, rfl⟩ := own_slice h
  rfl
theorem Lists.keep {base : Nat} {u u' : World} {m : SegM} {vq vh vc vp vi : Value} (h : Lists base u m vq vh vc vp vi) (hk : ∀ g, ((∃ e z n xs v, (e = 81 ∨ e = 87 ∨ e = 90 ∨ e = 92 ∨ e = 5) ∧ u.ownsRow base e z v n xs ∧ v.ownBlock = some g) ∨ (∃ v t, VB u base v t ∧ v.ownBlock = some g)) → u'.heap[g]? = u.heap[g]?) : Lists base u' m vq vh vc vp vi := by
  obtain ⟨q, ⟨ps, h1, h2, h3, h4⟩, c, p, i⟩ := h
  exact ⟨own_keep q fun g hg => hk g (.inl ⟨_, _, _, _, _, .inl rfl, q, hg⟩), ⟨ps, h1, own_keep h2 fun g hg => hk g (.inl ⟨_, _, _, _, _, .inr (.inl rfl), h2, hg⟩), fun x hx => (h3 x hx).keep fun g hg => hk g (.inr ⟨_, _, h3 x hx, hg⟩), h4⟩,
    own_keep c fun g hg => hk g (.inl ⟨_, _, _, _, _, .inr (.inr (.inl rfl)), c, hg⟩), own_keep p fun g hg => hk g (.inl ⟨_, _, _, _, _, .inr (.inr (.inr (.inl rfl))), p, hg⟩), own_keep i fun g hg => hk g (.inl ⟨_, _, _, _, _, .inr (.inr (.inr (.inr rfl))), i, hg⟩)⟩
theorem Lists.below {base : Nat} {u u' : World} {m : SegM} {vq vh vc vp vi : Value} (h : Lists base u m vq vh vc vp vi) (hb : Below u.heap.size u u') : Lists base u' m vq vh vc vp vi :=
  h.keep fun g hg => hb.block g (by
    rcases hg with ⟨e, z, n, xs, v, _, ho, hv⟩ | ⟨v, t, ho, hv⟩
    · exact (ho.lt g hv).2
    · obtain ⟨g', e', _, h9⟩ := ho.lt
      rw [e'] at hv
      injection hv with hv
      omega)
theorem Lists.keepRow {base r0 : Nat} {u : World} {t : TypeId} {cs : Array Value} {m : SegM} {vq vh vc vp vi : Value} (h : Lists base u m vq vh vc vp vi) (hR : Blk u r0 t cs) (h1 : t ≠ 81) (h2 : t ≠ 87) (h3 : t ≠ 90) (h4 : t ≠ 92) (h5 : t ≠ 5) (ds : Array Value) : Lists base (u.setRow r0 ds) m vq vh vc vp vi :=
  h.keep fun g hg => setRow_other u r0 g ds (fun e => by
    subst e
    rcases hg with ⟨e, z, n, xs, v, he, ho, hv⟩ | ⟨v, t', ho, hv⟩
    · exact row_ne ho hR (by rcases he with rfl | rfl | rfl | rfl | rfl <;> assumption) hv
    · exact ho.ne hR h5 hv)
set_option maxRecDepth 100000 in
set_option maxHeartbeats 32000000 in
theorem read_any (f : List UInt8) (p : Int) (w : World) (hev : ErrT w) (hl : f.length ≤ 16777216) (hp1 : -9223372036854775808 ≤ p) (hp2 : p ≤ 9223372036854775807) :
    Calls Tryz.prog 7 #[.string (Bs f), .int .i64 p] w (ReadP (readM f p) w) := by
  have hR := Blk.new w 31 #[.int .u8 0, .int .i64 0, .int .i64 0, .slice none 0 0, .slice none 0 0, .int .u8 0, .int .i64 0, .int .i64 0, .slice none 0 0, .slice none 0 0, .slice none 0 0, .int .i64 0, .string (ByteArray.mk #[])]
  have hb1 : Below w.heap.size w (w.alloc (.cells #[.int .u8 0, .int .i64 0, .int .i64 0, .slice none 0 0, .slice none 0 0, .int .u8 0, .int .i64 0, .int .i64 0, .slice none 0 0, .slice none 0 0, .slice none 0 0, .int .i64 0, .string (ByteArray.mk #[])] 31)) := (Below.refl _ _).alloc (Nat.le_refl _) _
  have hi1 : (Tryz.prog.info? 31).map (·.size) = some (segC SegM.none_ nilS nilS nilS nilS nilS).size := size13R
  have hi3 : (segC SegM.none_ nilS nilS nilS nilS nilS).all (·.oneCell') = true := one13 _ _ _ _ _ _ rfl rfl rfl rfl rfl
  have HI := Lib.hid (And.intro hi1 hi3); clear hi1 hi3
  have hL : (Bs f).size = f.length := Bs_size f
  have hbyte : ∀ k, ∀ h : k < (Bs f).size, ((Bs f)[k]).toNat = nb f k := fun k h => by rw [Bs_get]; rfl
  obtain ⟨n, hn⟩ : ∃ n, f.length = n := ⟨_, rfl⟩
  have hcut : ∀ a b, (Bs f).extract a b = Bs ((f.drop a).take (b - a)) := fun a b => Bs_cut f a b
  rw [hn] at hL hl
  obtain ⟨RR, hRR⟩ : ∃ RR, readM f p = RR := ⟨_, rfl⟩
  rw [hRR]
  have hrd := hRR.symm
  unfold readM at hrd
  rw [hn] at hrd
  have HRD := Lib.hid hrd; clear hrd hRR
  have HN := Lib.hid hn; clear hn
  generalize Bs f = LB at hL hbyte hcut ⊢
  have HBY := Lib.hid hbyte; clear hbyte
  have HCUT := Lib.hid hcut; clear hcut
  have HEV := Lib.hid hev; clear hev
  go_enter Tryz.func7, Tryz.ntmps7
  go_upto_region 1 with fail
  generalize w.alloc (.cells #[.int .u8 0, .int .i64 0, .int .i64 0, .slice none 0 0, .slice none 0 0, .int .u8 0, .int .i64 0, .int .i64 0, .slice none 0 0, .slice none 0 0, .slice none 0 0, .int .i64 0, .string (ByteArray.mk #[])] 31) = w1 at hR hb1 ⊢
  generalize hr0 : w.heap.size = r0 at hR ⊢
  have HR0 := Lib.hid hr0; clear hr0
  by_cases c1 : p < 0 ∨ (n : Int) < p
  · have hrd := HRD.out
    rw [if_pos c1] at hrd
    have HD := Lib.hid hrd; clear hrd HRD
    by_cases c2 : p < 0
    · go_wp2_with fail
      refine (fail_any 3 p w1).mono ?_
      rintro e wz ⟨g, rfl, hg, hF, hbz⟩
      have hRz := hR.kept hbz
      have hb3z := below_then hb1 hbz
      have hF3 := hF.rowFar (ds := segC SegM.none_ nilS nilS nilS nilS nilS) (g' := r0) (by have := hR.lt; omega)
      have hR3z := hRz.row (ds := segC SegM.none_ nilS nilS nilS nilS nilS)
      have hb4z : Below w.heap.size w (wz.setRow r0 (segC SegM.none_ nilS nilS nilS nilS nilS)) := grown_below (grown_row (below_grown hb3z none) (.inl (by have := HR0.out; omega)) _)
      have HG := Lib.hid (And.intro hF3 (And.intro hb4z (And.intro hg hb1.size))); clear hF3 hb4z hb3z hF hg hbz
      go_wp2_with (refine wpList_store_row rfl _ _ _ rfl _ _ rfl rfl _ _ hRz HI.out.1 rfl HI.out.2 ?_)
      refine bodyPost_ret (results_cell_tmp (by rfl) _ _ r0 31 _ _ _ _ (by rfl) (by rfl) hR3z Tryz.underlying31 rfl HI.out.1) (by rfl) ?_
      refine ⟨HG.out.2.1, ?_⟩
      rw [HD.out]
      exact ⟨g, rfl, by have := HG.out.2.2; omega, HG.out.1⟩
    have c3 : (n : Int) < p := by omega
    have c2b : ¬ p < 0 := c2
    go_wp2_with fail
    refine (fail_any 3 p w1).mono ?_
    rintro e wz ⟨g, rfl, hg, hF, hbz⟩
    have hRz := hR.kept hbz
    have hb3z := below_then hb1 hbz
    have hF3 := hF.rowFar (ds := segC SegM.none_ nilS nilS nilS nilS nilS) (g' := r0) (by have := hR.lt; omega)
    have hR3z := hRz.row (ds := segC SegM.none_ nilS nilS nilS nilS nilS)
    have hb4z : Below w.heap.size w (wz.setRow r0 (segC SegM.none_ nilS nilS nilS nilS nilS)) := grown_below (grown_row (below_grown hb3z none) (.inl (by have := HR0.out; omega)) _)
    have HG := Lib.hid (And.intro hF3 (And.intro hb4z (And.intro hg hb1.size))); clear hF3 hb4z hb3z hF hg hbz
    go_wp2_with (refine wpList_store_row rfl _ _ _ rfl _ _ rfl rfl _ _ hRz HI.out.1 rfl HI.out.2 ?_)
    refine bodyPost_ret (results_cell_tmp (by rfl) _ _ r0 31 _ _ _ _ (by rfl) (by rfl) hR3z Tryz.underlying31 rfl HI.out.1) (by rfl) ?_
    refine ⟨HG.out.2.1, ?_⟩
    rw [HD.out]
    exact ⟨g, rfl, by have := HG.out.2.2; omega, HG.out.1⟩
  have hrd := HRD.out
  rw [if_neg c1] at hrd
  clear HRD
  obtain ⟨q, rfl⟩ : ∃ q : Nat, p = q := ⟨p.toNat, by omega⟩
  have hqn : q ≤ n := by omega
  clear c1 hp1 hp2
  rw [Int.toNat_natCast] at hrd
  have c2 : ¬ (q : Int) < 0 := by omega
  have c3 : ¬ (n : Int) < (q : Int) := by omega
  have hw0 : IntKind.i64.wrap ((n : Int) - (q : Int)) = (n : Int) - (q : Int) := IntWalk.i64_in _ (by omega)
  by_cases e1 : q = n
  · rw [if_pos (by omega)] at hrd
    have HD := Lib.hid hrd; clear hrd
    subst e1
    have hw0 : IntKind.i64.wrap ((q : Int) - (q : Int)) = 0 := by rw [Int.sub_self]; rfl
    go_wp2_with fail
    refine (fail_any 44 (q : Int) w1).mono ?_
    rintro e wz ⟨g, rfl, hg, hF, hbz⟩
    have hRz := hR.kept hbz
    have hb3z := below_then hb1 hbz
    have hF3 := hF.rowFar (ds := segC SegM.none_ nilS nilS nilS nilS nilS) (g' := r0) (by have := hR.lt; omega)
    have hR3z := hRz.row (ds := segC SegM.none_ nilS nilS nilS nilS nilS)
    have hb4z : Below w.heap.size w (wz.setRow r0 (segC SegM.none_ nilS nilS nilS nilS nilS)) := grown_below (grown_row (below_grown hb3z none) (.inl (by have := HR0.out; omega)) _)
    have HG := Lib.hid (And.intro hF3 (And.intro hb4z (And.intro hg hb1.size))); clear hF3 hb4z hb3z hF hg hbz
    go_wp2_with (refine wpList_store_row rfl _ _ _ rfl _ _ rfl rfl _ _ hRz HI.out.1 rfl HI.out.2 ?_)
    refine bodyPost_ret (results_cell_tmp (by rfl) _ _ r0 31 _ _ _ _ (by rfl) (by rfl) hR3z Tryz.underlying31 rfl HI.out.1) (by rfl) ?_
    refine ⟨HG.out.2.1, ?_⟩
    rw [HD.out]
    exact ⟨g, rfl, by have := HG.out.2.2; omega, HG.out.1⟩
  rw [if_neg (by omega)] at hrd
  have hqi : (q : Int) < n := by omega
  clear e1 hqn c3
  have c3 : ¬ (n : Int) < (q : Int) := by omega
  have hq0 : 0 ≤ (q : Int) := by omega
  have hyq : ∀ h : q < LB.size, (LB[q]).toNat = nb f q := HBY.out q
  have hxq := nb_lt f q
  rw [show ((f.getD q 0).toNat) = nb f q from rfl] at hrd
  generalize nb f q = FF at hyq hxq hrd
  by_cases e2 : FF = 255
  case neg =>
    rw [if_pos e2] at hrd
    have HD := Lib.hid hrd; clear hrd
    have e2b : ((FF : Int) != 255) = true := by simp; omega
    have e2c : ¬ (FF : Int) = 255 := by omega
    go_wp2_with fail
    refine (fail_any 151 (q : Int) w1).mono ?_
    rintro e wz ⟨g, rfl, hg, hF, hbz⟩
    have hRz := hR.kept hbz
    have hb3z := below_then hb1 hbz
    have hF3 := hF.rowFar (ds := segC SegM.none_ nilS nilS nilS nilS nilS) (g' := r0) (by have := hR.lt; omega)
    have hR3z := hRz.row (ds := segC SegM.none_ nilS nilS nilS nilS nilS)
    have hb4z : Below w.heap.size w (wz.setRow r0 (segC SegM.none_ nilS nilS nilS nilS nilS)) := grown_below (grown_row (below_grown hb3z none) (.inl (by have := HR0.out; omega)) _)
    have HG := Lib.hid (And.intro hF3 (And.intro hb4z (And.intro hg hb1.size))); clear hF3 hb4z hb3z hF hg hbz
    go_wp2_with (refine wpList_store_row rfl _ _ _ rfl _ _ rfl rfl _ _ hRz HI.out.1 rfl HI.out.2 ?_)
    refine bodyPost_ret (results_cell_tmp (by rfl) _ _ r0 31 _ _ _ _ (by rfl) (by rfl) hR3z Tryz.underlying31 rfl HI.out.1) (by rfl) ?_
    refine ⟨HG.out.2.1, ?_⟩
    rw [HD.out]
    exact ⟨g, rfl, by have := HG.out.2.2; omega, HG.out.1⟩
  rw [if_neg (by omega)] at hrd
  subst e2
  by_cases e3 : q + 1 = n
  · rw [if_pos (by omega)] at hrd
    have HD := Lib.hid hrd; clear hrd
    have e3b : (n : Int) - (q : Int) < 2 := by omega
    go_wp2_with fail
    refine (fail_any 44 (n : Int) w1).mono ?_
    rintro e wz ⟨g, rfl, hg, hF, hbz⟩
    have hRz := hR.kept hbz
    have hb3z := below_then hb1 hbz
    have hF3 := hF.rowFar (ds := segC SegM.none_ nilS nilS nilS nilS nilS) (g' := r0) (by have := hR.lt; omega)
    have hR3z := hRz.row (ds := segC SegM.none_ nilS nilS nilS nilS nilS)
    have hb4z : Below w.heap.size w (wz.setRow r0 (segC SegM.none_ nilS nilS nilS nilS nilS)) := grown_below (grown_row (below_grown hb3z none) (.inl (by have := HR0.out; omega)) _)
    have HG := Lib.hid (And.intro hF3 (And.intro hb4z (And.intro hg hb1.size))); clear hF3 hb4z hb3z hF hg hbz
    go_wp2_with (refine wpList_store_row rfl _ _ _ rfl _ _ rfl rfl _ _ hRz HI.out.1 rfl HI.out.2 ?_)
    refine bodyPost_ret (results_cell_tmp (by rfl) _ _ r0 31 _ _ _ _ (by rfl) (by rfl) hR3z Tryz.underlying31 rfl HI.out.1) (by rfl) ?_
    refine ⟨HG.out.2.1, ?_⟩
    rw [HD.out]
    exact ⟨g, rfl, by have := HG.out.2.2; omega, HG.out.1⟩
  rw [if_neg (by omega)] at hrd
  have e3b : ¬ (n : Int) - (q : Int) < 2 := by omega
  obtain ⟨q1, hq1⟩ : ∃ q1, q + 1 = q1 := ⟨_, rfl⟩
  have hq1i : (q1 : Int) < n := by omega
  clear e3
  have hw1 : IntKind.i64.wrap ((q : Int) + 1) = (q1 : Int) := by rw [IntWalk.i64_in _ (by omega)]; omega
  have hy1 : ∀ h : q1 < LB.size, (LB[q1]).toNat = nb f (q + 1) := by rw [hq1]; exact HBY.out q1
  have HQ1 := Lib.hid hq1; clear hq1
  have hx1 := nb_lt f (q + 1)
  rw [show ((f.getD (q + 1) 0).toNat) = nb f (q + 1) from rfl] at hrd
  generalize nb f (q + 1) = c at hy1 hx1 hrd
  have hcode : c < 256 := by omega
  have HRD := Lib.hid hrd; clear hrd
  go_wp2_with fail
  refine (refused_any c w1 hcode).mono ?_
  rintro e w1' ⟨rfl, rfl⟩
  obtain ⟨rc, hrc⟩ : ∃ rc, refP c = rc := ⟨_, rfl⟩
  rw [hrc]
  have HRC := Lib.hid hrc; clear hrc
  by_cases e4 : rc = 0
  case neg =>
    have hrd : RR = .fault rc (q : Int) := by
      have h9 := HRD.out
      have h8 := HRC.out
      unfold refP at h8
      by_cases hr : refM c ≠ 0
      · rw [if_pos hr] at h9 h8
        rw [h9, h8]
      · rw [if_neg hr] at h9 h8
        by_cases hm : mayM c = false
        · rw [if_pos hm] at h9 h8
          rw [h9, ← h8]
        · rw [if_neg hm] at h8
          omega
    have HD := Lib.hid hrd; clear hrd
    have e4b : ((rc : Int) != 0) = true := by simpa using e4
    have e4c : ¬ ((rc : Int) = 0) := by omega
    go_wp2_with fail
    refine (fail_any (rc : Int) (q : Int) w1).mono ?_
    rintro e wz ⟨g, rfl, hg, hF, hbz⟩
    have hRz := hR.kept hbz
    have hb3z := below_then hb1 hbz
    have hF3 := hF.rowFar (ds := segC SegM.none_ nilS nilS nilS nilS nilS) (g' := r0) (by have := hR.lt; omega)
    have hR3z := hRz.row (ds := segC SegM.none_ nilS nilS nilS nilS nilS)
    have hb4z : Below w.heap.size w (wz.setRow r0 (segC SegM.none_ nilS nilS nilS nilS nilS)) := grown_below (grown_row (below_grown hb3z none) (.inl (by have := HR0.out; omega)) _)
    have HG := Lib.hid (And.intro hF3 (And.intro hb4z (And.intro hg hb1.size))); clear hF3 hb4z hb3z hF hg hbz
    go_wp2_with (refine wpList_store_row rfl _ _ _ rfl _ _ rfl rfl _ _ hRz HI.out.1 rfl HI.out.2 ?_)
    refine bodyPost_ret (results_cell_tmp (by rfl) _ _ r0 31 _ _ _ _ (by rfl) (by rfl) hR3z Tryz.underlying31 rfl HI.out.1) (by rfl) ?_
    refine ⟨HG.out.2.1, ?_⟩
    rw [HD.out]
    exact ⟨g, rfl, by have := HG.out.2.2; omega, HG.out.1⟩
  subst e4
  have hrd := HRD.out
  have hrm : refM c = 0 ∧ mayM c = true := by
    have h8 := HRC.out
    unfold refP at h8
    by_cases hr : refM c ≠ 0
    · rw [if_pos hr] at h8; omega
    · rw [if_neg hr] at h8
      refine ⟨by omega, ?_⟩
      cases hm : mayM c with
      | false => rw [if_pos hm] at h8; omega
      | true => rfl
  rw [if_neg (by rw [hrm.1]; simp), if_neg (by rw [hrm.2]; decide)] at hrd
  clear HRD HRC hrm
  by_cases e5 : (n : Int) < (q : Int) + 4
  · rw [if_pos e5] at hrd
    have HD := Lib.hid hrd; clear hrd
    have e5b : (n : Int) - (q : Int) < 4 := by omega
    go_wp2_with fail
    refine (fail_any 44 (n : Int) w1).mono ?_
    rintro e wz ⟨g, rfl, hg, hF, hbz⟩
    have hRz := hR.kept hbz
    have hb3z := below_then hb1 hbz
    have hF3 := hF.rowFar (ds := segC SegM.none_ nilS nilS nilS nilS nilS) (g' := r0) (by have := hR.lt; omega)
    have hR3z := hRz.row (ds := segC SegM.none_ nilS nilS nilS nilS nilS)
    have hb4z : Below w.heap.size w (wz.setRow r0 (segC SegM.none_ nilS nilS nilS nilS nilS)) := grown_below (grown_row (below_grown hb3z none) (.inl (by have := HR0.out; omega)) _)
    have HG := Lib.hid (And.intro hF3 (And.intro hb4z (And.intro hg hb1.size))); clear hF3 hb4z hb3z hF hg hbz
    go_wp2_with (refine wpList_store_row rfl _ _ _ rfl _ _ rfl rfl _ _ hRz HI.out.1 rfl HI.out.2 ?_)
    refine bodyPost_ret (results_cell_tmp (by rfl) _ _ r0 31 _ _ _ _ (by rfl) (by rfl) hR3z Tryz.underlying31 rfl HI.out.1) (by rfl) ?_
    refine ⟨HG.out.2.1, ?_⟩
    rw [HD.out]
    exact ⟨g, rfl, by have := HG.out.2.2; omega, HG.out.1⟩
  rw [if_neg e5] at hrd
  have e5b : ¬ (n : Int) - (q : Int) < 4 := by omega
  clear hyq hqi hq0 hxq e3b hw0 e5b
  obtain ⟨q2, hq2⟩ : ∃ q2, q + 2 = q2 := ⟨_, rfl⟩
  obtain ⟨q3, hq3⟩ : ∃ q3, q + 3 = q3 := ⟨_, rfl⟩
  have hq2i : (q2 : Int) < n := by omega
  have hw2 : IntKind.i64.wrap ((q : Int) + 2) = (q2 : Int) := by rw [IntWalk.i64_in _ (by omega)]; omega
  have hy2 : ∀ h : q2 < LB.size, (LB[q2]).toNat = nb f (q + 2) := by rw [hq2]; exact HBY.out q2
  have hx2 := nb_lt f (q + 2)
  have hq3i : (q3 : Int) < n := by omega
  have hw3 : IntKind.i64.wrap ((q : Int) + 3) = (q3 : Int) := by rw [IntWalk.i64_in _ (by omega)]; omega
  have hy3 : ∀ h : q3 < LB.size, (LB[q3]).toNat = nb f (q + 3) := by rw [hq3]; exact HBY.out q3
  have hx3 := nb_lt f (q + 3)
  rw [show two (f.getD (q + 2) 0) (f.getD (q + 3) 0) = 256 * nb f (q + 2) + nb f (q + 3) from rfl] at hrd
  generalize nb f (q + 2) = B2 at hy2 hx2 hrd
  generalize nb f (q + 3) = B3 at hy3 hx3 hrd
  have hwc : IntKind.i64.wrap ((B2 : Int) * 256) = 256 * (B2 : Int) := by rw [IntKind.wrap_i64]; omega
  have hor : bits .or .i64 (256 * (B2 : Int)) (B3 : Int) = 256 * (B2 : Int) + (B3 : Int) := i64_two B2 B3 (by omega) (by omega)
  have hwx2 : IntKind.i64.wrap (B2 : Int) = B2 := IntWalk.i64_in _ (by omega)
  have hwx3 : IntKind.i64.wrap (B3 : Int) = B3 := IntWalk.i64_in _ (by omega)
  have HRD := Lib.hid hrd; clear hrd
  have HQ2 := Lib.hid (And.intro hq2 (And.intro hq3 e5)); clear hq2 hq3 e5
  have ew : ¬ (n : Int) - (q : Int) < 4 := by have := HQ2.out.2.2; omega
  have hwn : IntKind.i64.wrap ((n : Int) - (q : Int)) = (n : Int) - (q : Int) := IntWalk.i64_in _ (by omega)
  go_upto_region 14 with fail
  clear ew hwn
  refine Lex3.wp_region_lex [] (fun u => True) (fun u n h => h) trivial (by kernel_rfl) (by kernel_rfl) ?_
  try simp only [Act.put, zA, zB, zC]
  iterate 13 (refine Lex3.run_free (v := ?_) (by rfl) (by rfl) (fun u => ?_) ?_; rotate_left; (go_simp; try with_reducible rfl); simp only [Act.put, zA, zB, zC])

  refine Lex3.run_nil (fun n3 => ?_)
  have hR2 : Blk (w1.drew.drewN n3) r0 31 #[.int .u8 0, .int .i64 0, .int .i64 0, .slice none 0 0, .slice none 0 0, .int .u8 0, .int .i64 0, .int .i64 0, .slice none 0 0, .slice none 0 0, .slice none 0 0, .int .i64 0, .string (ByteArray.mk #[])] := hR
  have hb2 : Below w.heap.size w (w1.drew.drewN n3) := below_drewN (below_drewN hb1 1) n3
  clear hR hb1
  generalize w1.drew.drewN n3 = w2 at hR2 hb2 ⊢
  obtain ⟨L, hL2⟩ : ∃ L : Nat, 256 * B2 + B3 = L := ⟨_, rfl⟩
  have hLI : 256 * (B2 : Int) + (B3 : Int) = (L : Int) := by omega
  have hLb : L ≤ 65535 := by omega
  have hrd := HRD.out
  rw [hL2] at hrd
  clear HRD
  rw [hLI] at hor ⊢
  clear hLI hL2 hor hwc hwx2 hwx3 hx2 hx3 hy2 hy3 hq3i hw3
  rw [show (q : Int) + 2 = (q2 : Int) by have := HQ2.out; omega] at hrd
  by_cases e6 : L < 2
  · rw [if_pos e6] at hrd
    have HD := Lib.hid hrd; clear hrd
    have e6b : (L : Int) < 2 := by omega
    go_wp2_with fail
    refine (fail_any 152 (q2 : Int) w2).mono ?_
    rintro e wz ⟨g, rfl, hg, hF, hbz⟩
    have hRz := hR2.kept hbz
    have hb3z := below_then hb2 hbz
    have hF3 := hF.rowFar (ds := segC SegM.none_ nilS nilS nilS nilS nilS) (g' := r0) (by have := hR2.lt; omega)
    have hR3z := hRz.row (ds := segC SegM.none_ nilS nilS nilS nilS nilS)
    have hb4z : Below w.heap.size w (wz.setRow r0 (segC SegM.none_ nilS nilS nilS nilS nilS)) := grown_below (grown_row (below_grown hb3z none) (.inl (by have := HR0.out; omega)) _)
    have HG := Lib.hid (And.intro hF3 (And.intro hb4z (And.intro hg hb2.size))); clear hF3 hb4z hb3z hF hg hbz
    go_wp2_with (refine wpList_store_row rfl _ _ _ rfl _ _ rfl rfl _ _ hRz HI.out.1 rfl HI.out.2 ?_)
    refine bodyPost_ret (results_cell_tmp (by rfl) _ _ r0 31 _ _ _ _ (by rfl) (by rfl) hR3z Tryz.underlying31 rfl HI.out.1) (by rfl) ?_
    refine ⟨HG.out.2.1, ?_⟩
    rw [HD.out]
    exact ⟨g, rfl, by have := HG.out.2.2; omega, HG.out.1⟩
  rw [if_neg e6] at hrd
  have e6b : ¬ (L : Int) < 2 := by omega
  obtain ⟨en, hen⟩ : ∃ en, q2 + L = en := ⟨_, rfl⟩
  have hw4 : IntKind.i64.wrap ((q2 : Int) + (L : Int)) = (en : Int) := by rw [IntWalk.i64_in _ (by omega)]; omega
  rw [show (q2 : Int) + ((L : Nat) : Int) = (en : Int) by omega] at hrd
  have HEN := Lib.hid (And.intro hen hLb); clear hen
  by_cases e7 : (n : Int) < (en : Int)
  · rw [if_pos e7] at hrd
    have HD := Lib.hid hrd; clear hrd
    go_wp2_with fail
    refine (fail_any 44 (n : Int) w2).mono ?_
    rintro e wz ⟨g, rfl, hg, hF, hbz⟩
    have hRz := hR2.kept hbz
    have hb3z := below_then hb2 hbz
    have hF3 := hF.rowFar (ds := segC SegM.none_ nilS nilS nilS nilS nilS) (g' := r0) (by have := hR2.lt; omega)
    have hR3z := hRz.row (ds := segC SegM.none_ nilS nilS nilS nilS nilS)
    have hb4z : Below w.heap.size w (wz.setRow r0 (segC SegM.none_ nilS nilS nilS nilS nilS)) := grown_below (grown_row (below_grown hb3z none) (.inl (by have := HR0.out; omega)) _)
    have HG := Lib.hid (And.intro hF3 (And.intro hb4z (And.intro hg hb2.size))); clear hF3 hb4z hb3z hF hg hbz
    go_wp2_with (refine wpList_store_row rfl _ _ _ rfl _ _ rfl rfl _ _ hRz HI.out.1 rfl HI.out.2 ?_)
    refine bodyPost_ret (results_cell_tmp (by rfl) _ _ r0 31 _ _ _ _ (by rfl) (by rfl) hR3z Tryz.underlying31 rfl HI.out.1) (by rfl) ?_
    refine ⟨HG.out.2.1, ?_⟩
    rw [HD.out]
    exact ⟨g, rfl, by have := HG.out.2.2; omega, HG.out.1⟩
  rw [if_neg e7] at hrd
  obtain ⟨q4, hq4⟩ : ∃ q4, q + 4 = q4 := ⟨_, rfl⟩
  have hq4i : (q4 : Int) ≤ (en : Int) := by have := HQ2.out; have := HEN.out; omega
  have hw5 : IntKind.i64.wrap ((q : Int) + 4) = (q4 : Int) := by rw [IntWalk.i64_in _ (by omega)]; omega
  have hend2 : (en : Int) ≤ n := by omega
  have hcc := HCUT.out q4 en
  rw [show en - q4 = L - 2 by have := HQ2.out; have := HEN.out; omega] at hcc
  rw [hq4] at hrd
  have HQ4 := Lib.hid hq4; clear hq4
  generalize hdd : (f.drop q4).take (L - 2) = d at hcc hrd
  have hdl : d.length ≤ 16777216 := by rw [← hdd, List.length_take]; omega
  clear hdd
  have HRD := Lib.hid hrd; clear hrd
  clear e6 hLb
  go_upto_region 21 with fail
  have hS3 := Blk.new w2 31 #[.int .u8 (c : Int), .int .i64 (q : Int), .int .i64 (en : Int), .slice none 0 0, .slice none 0 0, .int .u8 0, .int .i64 0, .int .i64 0, .slice none 0 0, .slice none 0 0, .slice none 0 0, .int .i64 0, .string (ByteArray.mk #[])]
  have hR3 := hR2.alloc (.cells #[.int .u8 (c : Int), .int .i64 (q : Int), .int .i64 (en : Int), .slice none 0 0, .slice none 0 0, .int .u8 0, .int .i64 0, .int .i64 0, .slice none 0 0, .slice none 0 0, .slice none 0 0, .int .i64 0, .string (ByteArray.mk #[])] 31)
  have hb3 := hb2.alloc hb2.size (.cells #[.int .u8 (c : Int), .int .i64 (q : Int), .int .i64 (en : Int), .slice none 0 0, .slice none 0 0, .int .u8 0, .int .i64 0, .int .i64 0, .slice none 0 0, .slice none 0 0, .slice none 0 0, .int .i64 0, .string (ByteArray.mk #[])] 31)
  have hsr : r0 < w2.heap.size := hR2.lt
  clear hR2 hb2
  have hS3' : Blk (w2.alloc (.cells #[.int .u8 (c : Int), .int .i64 (q : Int), .int .i64 (en : Int), .slice none 0 0, .slice none 0 0, .int .u8 0, .int .i64 0, .int .i64 0, .slice none 0 0, .slice none 0 0, .slice none 0 0, .int .i64 0, .string (ByteArray.mk #[])] 31)) w2.heap.size 31 (segC (blank c (q : Int) (en : Int)) nilS nilS nilS nilS nilS) := hS3
  have hsz3 : w.heap.size ≤ w2.heap.size := by have := HR0.out; omega
  clear hS3
  generalize w2.alloc (.cells #[.int .u8 (c : Int), .int .i64 (q : Int), .int .i64 (en : Int), .slice none 0 0, .slice none 0 0, .int .u8 0, .int .i64 0, .int .i64 0, .slice none 0 0, .slice none 0 0, .slice none 0 0, .int .i64 0, .string (ByteArray.mk #[])] 31) = w3 at hR3 hS3' hb3 ⊢
  generalize w2.heap.size = s at hS3' hsr hsz3 ⊢
  have HS9 := Lib.hid (And.intro hsr hsz3); clear hsr hsz3
  clear hq1i hq2i hw1 hw4 hx1 hy1 hw2
  have hcf := fill_any s c (q : Int) (en : Int) d w3 hS3' hcode hdl
  have HCALL := Lib.hid hcf; clear hcf hS3'
  have hev3 := HEV.out.below hb3
  have HEV3 := Lib.hid hev3; clear hev3
  go_wp2_with fail
  refine HCALL.out.mono ?_
  intro e w4 he
  clear hw5 hq4i hend2 hcc e7
  have hcM := HRD.out
  cases hT : contM c d with
  | bad cc =>
    rw [hT] at he hcM
    obtain ⟨rfl, hc0, hb4⟩ := he
    have hrd : RR = .fault cc (if cc = 152 then (q2 : Int) else (q : Int)) := hcM
    have HRR := Lib.hid hrd; clear hrd hcM hT
    have hR4 : Blk w4 r0 31 #[.int .u8 0, .int .i64 0, .int .i64 0, .slice none 0 0, .slice none 0 0, .int .u8 0, .int .i64 0, .int .i64 0, .slice none 0 0, .slice none 0 0, .slice none 0 0, .int .i64 0, .string (ByteArray.mk #[])] := hb4.blk hR3 (by have := hR3.lt; omega) (by have := HS9.out; omega) (by have := HS9.out; omega)
    have hb5 : Below w.heap.size w w4 := hb3.trans (hb4.below hb3.size (by have := HS9.out; omega) (by have := HS9.out; omega))
    have hev4 : ErrT w4 := HEV.out.below hb5
    clear hb4 hR3 hb3
    go_upto_region 23 with fail
    have hE := Blk.new w4 32 #[.int .i64 0]
    have hR5 := hR4.alloc (.cells #[.int .i64 0] 32)
    have hb6 := hb5.alloc hb5.size (.cells #[.int .i64 0] 32)
    have hev5 : ErrT (w4.alloc (.cells #[.int .i64 0] 32)) := HEV.out.below hb6
    have hrE : r0 < w4.heap.size := hR4.lt
    have hwE : w.heap.size ≤ w4.heap.size := hb5.size
    clear hR4 hb5 hev4
    generalize w4.alloc (.cells #[.int .i64 0] 32) = w5 at hE hR5 hb6 hev5 ⊢
    generalize w4.heap.size = ge at hE hrE hwE ⊢
    have HGE := Lib.hid (And.intro hrE hwE); clear hrE hwE
    go_wp2_with fail
    refine (as_errno_at (cc : Int) ge _ w5 hev5 hE).mono ?_
    rintro e w6 ⟨rfl, hE6, hgr⟩
    have hR6 := hR5.grown hgr (fun e => by injection e with e; have := HGE.out; omega)
    have hb7 : Below w.heap.size w w6 := grown_below (grown_own (below_grown hb6 none) hgr fun g e => .inl (by injection e with e; have := HGE.out; omega))
    clear hR5 hb6 hev5 hE hgr
    have kE : w6.cell? ⟨ge, 0, none⟩ = some (.int .i64 (cc : Int)) := by rw [hE6.cell]; rfl
    clear hE6
    by_cases e9 : cc = 152
    · have hrd := HRR.out
      rw [if_pos e9] at hrd
      have HD := Lib.hid hrd; clear hrd
      subst e9
      have hw2 : IntKind.i64.wrap ((q : Int) + 2) = (q2 : Int) := by rw [IntWalk.i64_in _ (by omega)]; have := HQ2.out; omega
      go_wp2_with fail
      refine (fail_any 152 (q2 : Int) w6).mono ?_
      rintro e wz ⟨g, rfl, hg, hF, hbz⟩
      have hRz := hR6.kept hbz
      have hb3z := below_then hb7 hbz
      have hF3 := hF.rowFar (ds := segC SegM.none_ nilS nilS nilS nilS nilS) (g' := r0) (by have := hR6.lt; omega)
      have hR3z := hRz.row (ds := segC SegM.none_ nilS nilS nilS nilS nilS)
      have hb4z : Below w.heap.size w (wz.setRow r0 (segC SegM.none_ nilS nilS nilS nilS nilS)) := grown_below (grown_row (below_grown hb3z none) (.inl (by have := HR0.out; omega)) _)
      have HG := Lib.hid (And.intro hF3 (And.intro hb4z (And.intro hg hb7.size))); clear hF3 hb4z hb3z hF hg hbz
      go_wp2_with (refine wpList_store_row rfl _ _ _ rfl _ _ rfl rfl _ _ hRz HI.out.1 rfl HI.out.2 ?_)
      refine bodyPost_ret (results_cell_tmp (by rfl) _ _ r0 31 _ _ _ _ (by rfl) (by rfl) hR3z Tryz.underlying31 rfl HI.out.1) (by rfl) ?_
      refine ⟨HG.out.2.1, ?_⟩
      rw [HD.out]
      exact ⟨g, rfl, by have := HG.out.2.2; omega, HG.out.1⟩
    · have hrd := HRR.out
      rw [if_neg e9] at hrd
      have HD := Lib.hid hrd; clear hrd
      have e9b : ((cc : Int) == 152) = false := beq_false_of_ne (by omega)
      have e9c : ¬ (cc : Int) = 152 := by omega
      go_wp2_with fail
      refine (fail_any (cc : Int) (q : Int) w6).mono ?_
      rintro e wz ⟨g, rfl, hg, hF, hbz⟩
      have hRz := hR6.kept hbz
      have hb3z := below_then hb7 hbz
      have hF3 := hF.rowFar (ds := segC SegM.none_ nilS nilS nilS nilS nilS) (g' := r0) (by have := hR6.lt; omega)
      have hR3z := hRz.row (ds := segC SegM.none_ nilS nilS nilS nilS nilS)
      have hb4z : Below w.heap.size w (wz.setRow r0 (segC SegM.none_ nilS nilS nilS nilS nilS)) := grown_below (grown_row (below_grown hb3z none) (.inl (by have := HR0.out; omega)) _)
      have HG := Lib.hid (And.intro hF3 (And.intro hb4z (And.intro hg hb7.size))); clear hF3 hb4z hb3z hF hg hbz
      go_wp2_with (refine wpList_store_row rfl _ _ _ rfl _ _ rfl rfl _ _ hRz HI.out.1 rfl HI.out.2 ?_)
      refine bodyPost_ret (results_cell_tmp (by rfl) _ _ r0 31 _ _ _ _ (by rfl) (by rfl) hR3z Tryz.underlying31 rfl HI.out.1) (by rfl) ?_
      refine ⟨HG.out.2.1, ?_⟩
      rw [HD.out]
      exact ⟨g, rfl, by have := HG.out.2.2; omega, HG.out.1⟩
  | ok r =>
    rw [hT] at he hcM
    obtain ⟨rfl, ⟨vq, vh, vc, vp, vi, hS4, hLs⟩, hb4⟩ := he
    have hrd : RR = .seg { r with at_ := (q : Int), end_ := (en : Int) } := hcM
    have HRR := Lib.hid hrd; clear hrd hcM hT
    have hR4 : Blk w4 r0 31 #[.int .u8 0, .int .i64 0, .int .i64 0, .slice none 0 0, .slice none 0 0, .int .u8 0, .int .i64 0, .int .i64 0, .slice none 0 0, .slice none 0 0, .slice none 0 0, .int .i64 0, .string (ByteArray.mk #[])] := hb4.blk hR3 (by have := hR3.lt; omega) (by have := HS9.out; omega) (by have := HS9.out; omega)
    have hb5 : Below w.heap.size w w4 := hb3.trans (hb4.below hb3.size (by have := HS9.out; omega) (by have := HS9.out; omega))
    have hLs2 := hLs.mono hb3.size
    clear hb4 hR3 hb3 hLs
    have hone : (segC { r with at_ := (q : Int), end_ := (en : Int) } vq vh vc vp vi).all (·.oneCell') = true := by
      obtain ⟨o1, ⟨ps, _, o2, _⟩, o3, o4, o5⟩ := hLs2
      exact one13 _ _ _ _ _ _ (own_one o1) (own_one o2) (own_one o3) (own_one o4) (own_one o5)
    have hS4' : Blk w4 s 31 (segC { r with at_ := (q : Int), end_ := (en : Int) } vq vh vc vp vi) := hS4
    have hsz9 : (Tryz.prog.info? 31).map (·.size) = some (segC { r with at_ := (q : Int), end_ := (en : Int) } vq vh vc vp vi).size := size13R
    have hLs3 : Lists w.heap.size w4 { r with at_ := (q : Int), end_ := (en : Int) } vq vh vc vp vi := hLs2
    clear hS4 hLs2
    generalize ({ r with at_ := (q : Int), end_ := (en : Int) } : SegM) = mm at hone hS4' hsz9 hLs3 HRR
    have HLS := Lib.hid hLs3; clear hLs3
    go_upto_region 23 with fail
    have hR5 := hR4.alloc (.cells #[.int .i64 0] 32)
    have hS5 := hS4'.alloc (.cells #[.int .i64 0] 32)
    have hb6 := hb5.alloc hb5.size (.cells #[.int .i64 0] 32)
    have hb9 : Below w4.heap.size w4 (w4.alloc (.cells #[.int .i64 0] 32)) := (Below.refl _ _).alloc (Nat.le_refl _) _
    clear hR4 hb5 hS4'
    have HB9 := Lib.hid hb9; clear hb9
    generalize w4.alloc (.cells #[.int .i64 0] 32) = w5 at hR5 hS5 hb6 HB9 ⊢
    generalize w4.heap.size = ge
    generalize hsv : segC mm vq vh vc vp vi = sv at hone hS5 hsz9
    have HSV := Lib.hid (And.intro hsv (And.intro hone hsz9)); clear hsv hone hsz9
    go_wp2_with fail
    refine (as_nil _ w5).mono ?_
    rintro e w6 ⟨rfl, rfl⟩
    have hR6 := hR5.row (ds := sv)
    have hb7 : Below w.heap.size w (w6.setRow r0 sv) := grown_below (grown_row (below_grown hb6 none) (.inl (by have := HR0.out; omega)) _)
    have hl9 : Lists w.heap.size (w6.setRow r0 sv) mm vq vh vc vp vi := by
      refine (HLS.out.below HB9.out).keepRow (r0 := r0) (t := 31) hR5 (by decide) (by decide) (by decide) (by decide) (by decide) sv
    have HG := Lib.hid (And.intro hb7 hl9); clear hb7 hl9 hb6
    go_wp2_with (first | (refine wpList_load_row rfl _ _ rfl s rfl _ _ _ _ hS5 Tryz.underlying31 rfl HSV.out.2.2 ?_) | (refine wpList_store_row rfl _ _ _ rfl _ _ rfl rfl _ _ hR5 HSV.out.2.2 (by rw [← HSV.out.1]; rfl) HSV.out.2.1 ?_))
    refine bodyPost_ret (results_cell_tmp (by rfl) _ _ r0 31 _ _ _ _ (by rfl) (by rfl) hR6 Tryz.underlying31 rfl HSV.out.2.2) (by rfl) ?_
    refine ⟨HG.out.1, ?_⟩
    rw [HRR.out]
    exact ⟨vq, vh, vc, vp, vi, by rw [HSV.out.1]; rfl, HG.out.2⟩
end Go.Proofs.YtjfgfoeenajneaaGreatDoor.Sg
