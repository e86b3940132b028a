/- PlaneScript: ask for the samples. -/
import Derived.Test.YtlbocfinjlkebaaScg
import Derived.Test.YtlbocfinjlkebaaLex3
namespace Go.Proofs.Ytlbocfinjlkebaa.Scr
open Go.RowKit Go.Proofs.Ytlbocfinjlkebaa.Byt Go.Proofs.Ytlbocfinjlkebaa.R12

set_option maxRecDepth 100000 in
set_option maxHeartbeats 8000000 in
theorem ask_pix (base B n : Nat) (r : Nat → Nat) (vp vq : Value) (es : List Ent) (I J a b c d v : Int) (A : Option Addr) (m mc : Nat) (w : World) (h : Book base w B r vp vq (es.map pP) (es.map pQ) es) (hz : ∀ e ∈ es, e.zp = e.zq) (hn : es.length = n) (hm : n ≤ 8388608) (k j : Nat) (e1 : Ent) (hk : es[k]? = some e1) :
    Calls Try.prog 106 #[.pointer (some ⟨B, 0, none⟩), .agg #[.int .i64 10, .int .i64 I, .int .i64 J, .int .i64 a, .int .i64 b, .int .i64 c, .int .i64 d, .int .i64 v, .slice A m mc], .int .i64 k, .int .i64 j] w (Goes base B n w) := by
  obtain ⟨bp, gp, cp, bq, gq, cq, W, H, zs, zs', rfl⟩ : ∃ bp gp cp bq gq cq W H zs zs', e1 = ⟨bp, gp, cp, bq, gq, cq, W, H, zs, zs'⟩ := ⟨_, _, _, _, _, _, _, _, _, _, rfl⟩
  obtain rfl : zs = zs' := hz _ (List.mem_of_getElem? hk)
  have hkn : k < n := by rw [← hn]; exact (List.getElem?_eq_some_iff.1 hk).1
  obtain ⟨r1, h1, f1, hrt, t1, b1⟩ := h.box #[.int .i64 10, .int .i64 I, .int .i64 J, .int .i64 a, .int .i64 b, .int .i64 c, .int .i64 d, .int .i64 v, .slice A m mc] 119
  go_enter Try.func106, Try.ntmps106
  go_upto_region 1 with fail
  generalize (w.alloc (.cells #[.int .i64 10, .int .i64 I, .int .i64 J, .int .i64 a, .int .i64 b, .int .i64 c, .int .i64 d, .int .i64 v, .slice A m mc] 119)) = w1 at h1 f1 t1 b1 ⊢
  generalize w.heap.size = t at hrt t1 ⊢
  have o0 : w1.cell? ⟨t, 0, none⟩ = some (.int .i64 10) := by rw [t1.cell]; rfl
  obtain ⟨gP, cP, gQ, cQ, rfl, rfl, e1, e2⟩ := h1.see n hn hk
  dsimp only at e1 e2
  have c0 := h1.p0
  have c1 := h1.p1
  obtain ⟨⟨hp, hq⟩, _⟩ := h1.ent k _ hk
  dsimp only at hp hq
  obtain ⟨i0, hi, hz0, hz1, hz2⟩ := info_parts PI.info
  have hsz := hp.size
  obtain ⟨r2, h2, hS, f2⟩ := h1.fresh
  have bS := h2.base_le hS
  obtain ⟨N, hN⟩ : ∃ N, W * H = N := ⟨_, rfl⟩
  rw [hN] at hsz
  have HN := Lib.hid hN; clear hN
  have HSs := Lib.hid hS; clear hS
  go_wp2_with fail
  refine (PI.pix_any bp gp W H cp _ w1 hp (ints_oneCell .i64 zs)).mono ?_
  rintro e w2 ⟨v, rfl, ⟨g1, k1, cur1, rfl, m1, m2, m3, m4, m5, m6⟩, b2⟩
  have s2 : Sl w2 (some ⟨g1, 0, none⟩) (W * H) (zs.map (.int .i64)) := Sl.of_blk m1 m3 (by omega)
  rw [HN.out] at s2 m3 m4 ⊢
  go_wp2_with fail
  refine (pix_any bq gq W H cq zs w2 (hq.below b2)).mono ?_
  rintro e w3 ⟨g2, c2', rfl, s3, hg2, hc2, hcm, b3⟩
  rw [HN.out] at s3 hc2 ⊢
  go_wp2_with fail
  refine (same12_any _ _ N N _ _ zs zs w3 (s2.below b3) s3 (by omega) (by omega)).mono ?_
  rintro e w4 ⟨rfl, k4, rfl⟩
  rw [eqLI]
  have b13 := below_then b2 b3
  have h4 := h2.under HSs.out (below_drewN b13 k4)
  have c2 := h4.p2
  have fz2 := h4.frozen 2
  have blk4 : Blk (w3.drewN k4) g1 3 cur1 := (m1.kept b3).drewN k4
  have hbl4 : Below base w (w3.drewN k4) := b1.trans (below_drewN (b13.mono bS) k4)
  have hsz4 : w1.heap.size ≤ (w3.drewN k4).heap.size := b13.size
  have hBg : g1 ≠ B := fun e => by have := h1.lt; omega
  have hrg : r2 g1 = 3 := HSs.out g1 m6
  have hbg : base ≤ g1 := by omega
  have HRG := Lib.hid hrg; clear hrg
  clear s2 s3 b3 b2 m1 m3
  generalize (w3.drewN k4) = w4 at h4 c2 fz2 blk4 hbl4 hsz4 ⊢
  go_upto_region 20 with fail
  have h5 := h4.mark
  have blk5 := blk4.far (p := ⟨B, 2, none⟩) hBg (.bool true)
  have hbl5 := h4.markB hbl4
  have hsz5 : w1.heap.size ≤ (w4.setCell ⟨B, 2, none⟩ (.bool true)).heap.size := by simpa using hsz4
  generalize (w4.setCell ⟨B, 2, none⟩ (.bool true)) = w5 at h5 blk5 hbl5 hsz5 ⊢
  clear h4 c2 fz2 blk4 hbl4 hsz4 c0 c1 e1 e2 hp hq h1
  go_wp2_with fail
  go_loopw [22] (fun i wr => ∃ (k : Nat) (cur : Array Value), k ≤ N ∧ i = .int .i64 k ∧ Book base wr B r2 _ _ (es.map pP) (es.map pQ) es ∧ Below base w wr ∧ w1.heap.size ≤ wr.heap.size ∧ Blk wr g1 3 cur ∧ cur.size = k1) (fun i _ => N - (intOf i).toNat)
  case atStart => exact ⟨0, cur1, Nat.zero_le _, rfl, h5, hbl5, hsz5, blk5, m2⟩
  clear h5 hbl5 hsz5 blk5 m2
  clear w5
  case round =>
    obtain ⟨k, cur, hk, rfl, hB, hBl, hle, hG, hcs⟩ := hrel
    by_cases hlt : k < N
    · have d1 : wr.cell? ⟨g1, k, none⟩ = some (cur[k]'(by omega)) := by rw [hG.cell, Array.getElem?_eq_getElem (by omega)]
      have f3 := hG.frozen k
      go_wp2_with fail
      go_roundw
      case rel => exact ⟨k + 1, cur.setIfInBounds k (.int .i64 (-9)), by omega, by go_num, hB.off (a := ⟨g1, k, none⟩) HRG.out _, hBl.setCell hbg _, by simpa using hle, hG.set k _, by simpa using hcs⟩
      case measure => simp [intOf]; omega
    · have hown := owns_of_row w1.heap.size hG hcs m6 m4 m5
      go_wp2_with fail
      go_loopw [21, 23] (fun l i wr => ∃ (k : Nat) (xs : List Value), k ≤ 20 ∧ i = .int .i64 k ∧ Book base wr B r2 _ _ (es.map pP) (es.map pQ) es ∧ Below base w wr ∧ w1.heap.size ≤ wr.heap.size ∧ wr.ownsRow w1.heap.size 3 1 l (N + k) xs) (fun _ i _ => 20 - (intOf i).toNat)
      case atStart => exact ⟨0, _, Nat.zero_le _, rfl, hB, hBl, hle, hown⟩
      clear hB hBl hle hown hG hcs
      case round =>
        obtain ⟨k, xs, hk, rfl, hB, hBl, hle, hown⟩ := hrel
        by_cases hlt : k < 20
        · go_wp2_with (at_builtin; refine wpList_append_lies _ rfl (.tmp 200) (.tmp 201) 50 rfl w1.heap.size 3 i0 (.int .i64 0) 1 8 Try.underlying50 hi hz0 hz1 hz2 rfl (by decide) _ (N + k) _ rfl (hown.alloc _) ⟨wr.heap.size, 0, none⟩ 1 1 [.int .i64 (-8)] rfl rfl (show ∀ i u, _ → World.cell? _ _ = _ from cell_one_new wr _ _) (by intro u hu; simp at hu; subst hu; rfl) (by decide) (by unfold maxLen; omega) (by omega) (show w1.heap.size ≤ (wr.alloc (.cells #[.int .i64 (-8)] 3)).heap.size by simp; omega) (wr.heap.size + 1) (show (wr.alloc (.cells #[.int .i64 (-8)] 3)).heap.size = _ by simp) ?_; intro gg cap w2 hown2 hgrow2 hat2 hlt2)
          go_roundw
          case rel =>
            have bS2 : Below w1.heap.size wr w2 := ((Below.refl _ _).alloc hle _).grown hgrow2 (by simp; omega) (fun j hj => (hown.lt j hj).1)
            exact ⟨k + 1, _, by omega, by go_num, hB.under HSs.out bS2, hBl.trans (bS2.mono bS), Nat.le_trans hle bS2.size, hown2⟩
          case measure => simp [intOf]; omega
        · go_wp2_with fail
          refine bodyPost_end (results_none rfl _ _ _) rfl ?_
          exact Goes.same hBl hB hz hn
end Go.Proofs.Ytlbocfinjlkebaa.Scr
