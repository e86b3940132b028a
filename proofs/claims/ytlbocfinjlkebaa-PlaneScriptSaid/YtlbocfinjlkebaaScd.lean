/- PlaneScript: make, a plane of noughts. -/
import Derived.Test.YtlbocfinjlkebaaScc
import Derived.Test.YtlbocfinjlkebaaLex3
namespace Go.Proofs.Ytlbocfinjlkebaa.Scr
open Go.RowKit Go.Proofs.Ytlbocfinjlkebaa.Byt Go.Proofs.Ytlbocfinjlkebaa.R12

set_option maxRecDepth 100000 in
set_option maxHeartbeats 4000000 in
theorem make_new (base B n : Nat) (r : Nat → Nat) (vp vq : Value) (es : List Ent) (I J a b c d v : Int) (A : Option Addr) (m mc : Nat) (w : World) (h : Book base w B r vp vq (es.map pP) (es.map pQ) es) (hz : ∀ e ∈ es, e.zp = e.zq) (hn : es.length = n) (hm : n ≤ 8388608) :
    Calls Try.prog 98 #[.pointer (some ⟨B, 0, none⟩), .agg #[.int .i64 1, .int .i64 I, .int .i64 J, .int .i64 a, .int .i64 b, .int .i64 c, .int .i64 d, .int .i64 v, .slice A m mc]] w (Goes base B n w) := by
  obtain ⟨r1, h1, f1, hrt, t1, b1⟩ := h.box #[.int .i64 1, .int .i64 I, .int .i64 J, .int .i64 a, .int .i64 b, .int .i64 c, .int .i64 d, .int .i64 v, .slice A m mc] 119
  go_enter Try.func98, Try.ntmps98
  go_upto_region 1 with fail
  generalize (w.alloc (.cells #[.int .i64 1, .int .i64 I, .int .i64 J, .int .i64 a, .int .i64 b, .int .i64 c, .int .i64 d, .int .i64 v, .slice A m mc] 119)) = w1 at h1 f1 t1 b1 ⊢
  generalize w.heap.size = t at hrt t1 ⊢
  have o0 : w1.cell? ⟨t, 0, none⟩ = some (.int .i64 1) := by rw [t1.cell]; rfl
  have o3 : w1.cell? ⟨t, 3, none⟩ = some (.int .i64 a) := by rw [t1.cell]; rfl
  have o4 : w1.cell? ⟨t, 4, none⟩ = some (.int .i64 b) := by rw [t1.cell]; rfl
  cases hf : fitsB a b
  · go_wp2_with fail
    refine (PI.new_no a b w1 hf).mono ?_
    rintro e w2 ⟨rfl, rfl⟩
    go_wp2_with fail
    refine (new_no a b w1 hf).mono ?_
    rintro e w2 ⟨rfl, rfl⟩
    go_wp2_with fail
    refine (keep_no base B _ _ _ _ _ _ 120 w1 h1).mono ?_
    rintro e w2 ⟨rfl, b2, h2, f2⟩
    go_wp2_with fail
    refine bodyPost_ret (results_none rfl _ _ _) rfl ?_
    exact Goes.same (b1.trans b2) h2 hz hn
  · obtain ⟨q1, q2, q3⟩ := (fitsB_iff _ _).1 hf
    obtain ⟨W, rfl⟩ := Int.eq_ofNat_of_zero_le (show 0 ≤ a by omega)
    obtain ⟨H, rfl⟩ := Int.eq_ofNat_of_zero_le (show 0 ≤ b by omega)
    clear q3
    go_wp2_with fail
    refine (PI.new_yes W H w1 hf).mono ?_
    rintro e w2 ⟨rfl, hp, b2⟩
    have o3' := below_cell b2 o3
    have o4' := below_cell b2 o4
    go_wp2_with fail
    refine (new_yes W H w2 hf).mono ?_
    rintro e w3 ⟨p, g, cq, rfl, hq, hp1, hg1, b3⟩
    have b13 := below_then b2 b3
    have hsz := hp.blt
    have hsz' := hp.glt
    obtain ⟨r3, h3, f3⟩ := h1.add (e := ⟨w1.heap.size + 1, w1.heap.size, W * H, p, g, cq, W, H, List.replicate (W * H) 0, List.replicate (W * H) 0⟩) b13 ⟨by rw [List.map_replicate]; exact hp.below b3, hq⟩ (by simp) (by simp) (by simp; omega) (by simp; omega) (by simp; omega) (by simp; omega)
    go_wp2_with fail
    refine (keep_yes base B n _ _ _ _ _ _ _ _ w3 h3 (by simp [hn]) (by simp [hn]) (by omega)).mono ?_
    rintro e w4 ⟨rfl, b4, r4, vp4, vq4, h4, f4⟩
    go_wp2_with fail
    refine bodyPost_ret (results_none rfl _ _ _) rfl ?_
    exact Goes.more (e := ⟨w1.heap.size + 1, w1.heap.size, W * H, p, g, cq, W, H, List.replicate (W * H) 0, List.replicate (W * H) 0⟩) ((b1.trans (b13.mono h1.le)).trans b4) h4 hz (by rfl) hn
end Go.Proofs.Ytlbocfinjlkebaa.Scr
