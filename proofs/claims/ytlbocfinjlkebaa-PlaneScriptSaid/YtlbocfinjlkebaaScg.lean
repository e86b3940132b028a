/- PlaneScript: ask. -/
import Derived.Test.YtlbocfinjlkebaaScf
import Derived.Test.YtlbocfinjlkebaaLex3
namespace Go.Proofs.Ytlbocfinjlkebaa.Scr
open Go.RowKit Go.Proofs.Ytlbocfinjlkebaa.Byt Go.Proofs.Ytlbocfinjlkebaa.R12

set_option maxRecDepth 100000 in
set_option maxHeartbeats 8000000 in
theorem ask_other (base B n : Nat) (r : Nat → Nat) (vp vq : Value) (es : List Ent) (K I J a b c d v : Int) (A : Option Addr) (m mc : Nat) (w : World) (h : Book base w B r vp vq (es.map pP) (es.map pQ) es) (hz : ∀ e ∈ es, e.zp = e.zq) (hn : es.length = n) (hm : n ≤ 8388608) (k j : Nat) (e1 : Ent) (hk : es[k]? = some e1) (hno : K ≠ 4 ∧ K ≠ 5 ∧ K ≠ 8 ∧ K ≠ 9 ∧ K ≠ 10) :
    Calls Try.prog 106 #[.pointer (some ⟨B, 0, none⟩), .agg #[.int .i64 K, .int .i64 I, .int .i64 J, .int .i64 a, .int .i64 b, .int .i64 c, .int .i64 d, .int .i64 v, .slice A m mc], .int .i64 k, .int .i64 j] w (Goes base B n w) := by
  obtain ⟨bp, gp, cp, bq, gq, cq, W, H, zs, zs', rfl⟩ : ∃ bp gp cp bq gq cq W H zs zs', e1 = ⟨bp, gp, cp, bq, gq, cq, W, H, zs, zs'⟩ := ⟨_, _, _, _, _, _, _, _, _, _, rfl⟩
  obtain rfl : zs = zs' := hz _ (List.mem_of_getElem? hk)
  have hkn : k < n := by rw [← hn]; exact (List.getElem?_eq_some_iff.1 hk).1
  obtain ⟨r1, h1, f1, hrt, t1, b1⟩ := h.box #[.int .i64 K, .int .i64 I, .int .i64 J, .int .i64 a, .int .i64 b, .int .i64 c, .int .i64 d, .int .i64 v, .slice A m mc] 119
  go_enter Try.func106, Try.ntmps106
  go_upto_region 1 with fail
  generalize (w.alloc (.cells #[.int .i64 K, .int .i64 I, .int .i64 J, .int .i64 a, .int .i64 b, .int .i64 c, .int .i64 d, .int .i64 v, .slice A m mc] 119)) = w1 at h1 f1 t1 b1 ⊢
  generalize w.heap.size = t at hrt t1 ⊢
  have o0 : w1.cell? ⟨t, 0, none⟩ = some (.int .i64 K) := by rw [t1.cell]; rfl
  obtain ⟨gP, cP, gQ, cQ, rfl, rfl, e1, e2⟩ := h1.see n hn hk
  dsimp only at e1 e2
  have c0 := h1.p0
  have c1 := h1.p1
  obtain ⟨⟨hp, hq⟩, _⟩ := h1.ent k _ hk
  dsimp only at hp hq
  have n1 := hno.1
  have n2 := hno.2.1
  have n3 := hno.2.2.1
  have n4 := hno.2.2.2.1
  have n5 := hno.2.2.2.2
  go_wp2_with fail
  refine bodyPost_end (results_none rfl _ _ _) rfl ?_
  exact Goes.same b1 h1 hz hn

set_option maxRecDepth 100000 in
set_option maxHeartbeats 8000000 in
theorem ask_at (base B n : Nat) (r : Nat → Nat) (vp vq : Value) (es : List Ent) (I J a b c d v : Int) (A : Option Addr) (m mc : Nat) (w : World) (h : Book base w B r vp vq (es.map pP) (es.map pQ) es) (hz : ∀ e ∈ es, e.zp = e.zq) (hn : es.length = n) (hm : n ≤ 8388608) (k j : Nat) (e1 : Ent) (hk : es[k]? = some e1) :
    Calls Try.prog 106 #[.pointer (some ⟨B, 0, none⟩), .agg #[.int .i64 4, .int .i64 I, .int .i64 J, .int .i64 a, .int .i64 b, .int .i64 c, .int .i64 d, .int .i64 v, .slice A m mc], .int .i64 k, .int .i64 j] w (Goes base B n w) := by
  obtain ⟨bp, gp, cp, bq, gq, cq, W, H, zs, zs', rfl⟩ : ∃ bp gp cp bq gq cq W H zs zs', e1 = ⟨bp, gp, cp, bq, gq, cq, W, H, zs, zs'⟩ := ⟨_, _, _, _, _, _, _, _, _, _, rfl⟩
  obtain rfl : zs = zs' := hz _ (List.mem_of_getElem? hk)
  have hkn : k < n := by rw [← hn]; exact (List.getElem?_eq_some_iff.1 hk).1
  obtain ⟨r1, h1, f1, hrt, t1, b1⟩ := h.box #[.int .i64 4, .int .i64 I, .int .i64 J, .int .i64 a, .int .i64 b, .int .i64 c, .int .i64 d, .int .i64 v, .slice A m mc] 119
  go_enter Try.func106, Try.ntmps106
  go_upto_region 1 with fail
  generalize (w.alloc (.cells #[.int .i64 4, .int .i64 I, .int .i64 J, .int .i64 a, .int .i64 b, .int .i64 c, .int .i64 d, .int .i64 v, .slice A m mc] 119)) = w1 at h1 f1 t1 b1 ⊢
  generalize w.heap.size = t at hrt t1 ⊢
  have o0 : w1.cell? ⟨t, 0, none⟩ = some (.int .i64 4) := by rw [t1.cell]; rfl
  have o3 : w1.cell? ⟨t, 3, none⟩ = some (.int .i64 a) := by rw [t1.cell]; rfl
  have o4 : w1.cell? ⟨t, 4, none⟩ = some (.int .i64 b) := by rw [t1.cell]; rfl
  obtain ⟨gP, cP, gQ, cQ, rfl, rfl, e1, e2⟩ := h1.see n hn hk
  dsimp only at e1 e2
  have c0 := h1.p0
  have c1 := h1.p1
  obtain ⟨⟨hp, hq⟩, _⟩ := h1.ent k _ hk
  dsimp only at hp hq
  go_wp2_with fail
  refine (atI bp gp W H cp zs a b w1 hp).mono ?_
  rintro e w2 ⟨rfl, k1, rfl⟩
  go_wp2_with fail
  refine (at_any bq gq W H cq zs a b (w1.drewN k1) (hq.drewN k1)).mono ?_
  rintro e w2 ⟨rfl, k2, rfl⟩
  have ht := t1
  generalize atZ zs W H a b = zv
  generalize inB a b W H = ib
  have hC2 : ∀ N, (w1.drewN N).cell? ⟨B, 2, none⟩ = some (.bool true) := fun _ => h1.p2
  have hF2 : ∀ N, (w1.drewN N).frozen? ⟨B, 2, none⟩ = false := fun _ => h1.frozen 2
  have hT : ∀ N, Blk ((w1.drewN N).setCell ⟨B, 2, none⟩ (.bool true)) t 119 #[.int .i64 4, .int .i64 I, .int .i64 J, .int .i64 a, .int .i64 b, .int .i64 c, .int .i64 d, .int .i64 v, .slice A m mc] := fun N => (h1.drewN N).markF.blk (t1.drewN N) hrt
  go_upto_region 7 with fail
  refine Lex3.wp_region_lex [] (fun u => u.cell? ⟨t, 3, none⟩ = some (.int .i64 a) ∧ u.cell? ⟨t, 4, none⟩ = some (.int .i64 b)) (fun u n h => h) ⟨o3, o4⟩ (by kernel_rfl) (by kernel_rfl) ?_
  refine Lex3.run_free (v := ?_) (by rfl) (by rfl) (fun u => ?_) ?_; rotate_left; (go_simp; try with_reducible rfl); simp only [Act.put, List.setIfInBounds_toArray, List.set_cons_zero, List.set_cons_succ]
  refine Lex3.run_free (v := ?_) (by rfl) (by rfl) (fun u => ?_) ?_; rotate_left; (go_simp; try with_reducible rfl); simp only [Act.put, List.setIfInBounds_toArray, List.set_cons_zero, List.set_cons_succ]
  refine Lex3.run_free (v := ?_) (by rfl) (by rfl) (fun u => ?_) ?_; rotate_left; (go_simp; try with_reducible rfl); simp only [Act.put, List.setIfInBounds_toArray, List.set_cons_zero, List.set_cons_succ]
  refine Lex3.run_free (v := ?_) (by rfl) (by rfl) (fun u => ?_) ?_; rotate_left; (go_simp; try with_reducible rfl); simp only [Act.put, List.setIfInBounds_toArray, List.set_cons_zero, List.set_cons_succ]
  refine Lex3.run_free (v := ?_) (by rfl) (by rfl) (fun u => ?_) ?_; rotate_left; (go_simp; try with_reducible rfl); simp only [Act.put, List.setIfInBounds_toArray, List.set_cons_zero, List.set_cons_succ]
  refine Lex3.run_free (v := ?_) (by rfl) (by kernel_rfl) (fun u => ?_) ?_; rotate_left; (go_simp; try with_reducible rfl); simp only [Act.put, List.setIfInBounds_toArray, List.set_cons_zero, List.set_cons_succ]
  refine Lex3.run_free (v := ?_) (by rfl) (by kernel_rfl) (fun u => ?_) ?_; rotate_left; (go_simp; try with_reducible rfl); simp only [Act.put, List.setIfInBounds_toArray, List.set_cons_zero, List.set_cons_succ]
  refine Lex3.run_free (v := ?_) (by rfl) (by kernel_rfl) (fun u => ?_) ?_; rotate_left; (go_simp; try with_reducible rfl); simp only [Act.put, List.setIfInBounds_toArray, List.set_cons_zero, List.set_cons_succ]
  refine Lex3.run_free (v := ?_) (by rfl) (by rfl) (fun u => ?_) ?_; rotate_left; (go_simp; try with_reducible rfl); simp only [Act.put, List.setIfInBounds_toArray, List.set_cons_zero, List.set_cons_succ]
  refine Lex3.run_free (v := ?_) (by rfl) (by rfl) (fun u => ?_) ?_; rotate_left; (go_simp; try with_reducible rfl); simp only [Act.put, List.setIfInBounds_toArray, List.set_cons_zero, List.set_cons_succ]
  refine Lex3.run_free (v := ?_) (by rfl) (by kernel_rfl) (fun u => ?_) ?_; rotate_left; (go_simp; try with_reducible rfl); simp only [Act.put, List.setIfInBounds_toArray, List.set_cons_zero, List.set_cons_succ]
  refine Lex3.run_free (v := ?_) (by rfl) (by kernel_rfl) (fun u => ?_) ?_; rotate_left; (go_simp; try with_reducible rfl); simp only [Act.put, List.setIfInBounds_toArray, List.set_cons_zero, List.set_cons_succ]
  refine Lex3.run_load (v := ?_) (by rfl) (by kernel_rfl) (fun u hu => ?_) ?_; rotate_left; (obtain ⟨hu0, hu1⟩ := hu; go_simp; try with_reducible rfl); simp only [Act.put, List.setIfInBounds_toArray, List.set_cons_zero, List.set_cons_succ]
  refine Lex3.run_free (v := ?_) (by rfl) (by kernel_rfl) (fun u => ?_) ?_; rotate_left; (go_simp; try with_reducible rfl); simp only [Act.put, List.setIfInBounds_toArray, List.set_cons_zero, List.set_cons_succ]
  refine Lex3.run_load (v := ?_) (by rfl) (by kernel_rfl) (fun u hu => ?_) ?_; rotate_left; (obtain ⟨hu0, hu1⟩ := hu; go_simp; try with_reducible rfl); simp only [Act.put, List.setIfInBounds_toArray, List.set_cons_zero, List.set_cons_succ]
  refine Lex3.run_eff (by rfl) (by rfl) (fun n' K' hK => ?_)
  go_simp
  refine (nearI bp gp W H cp zs a b _ (hp.drewN _)).mono ?_
  rintro e w2 ⟨rfl, k3, rfl⟩
  refine hK _ _ ⟨o3, o4⟩ ?_
  clear hK K'
  try simp only [Act.put, List.setIfInBounds_toArray, List.set_cons_zero, List.set_cons_succ]
  refine Lex3.run_free (v := ?_) (by rfl) (by kernel_rfl) (fun u => ?_) ?_; rotate_left; (go_simp; try with_reducible rfl); simp only [Act.put, List.setIfInBounds_toArray, List.set_cons_zero, List.set_cons_succ]
  refine Lex3.run_free (v := ?_) (by rfl) (by kernel_rfl) (fun u => ?_) ?_; rotate_left; (go_simp; try with_reducible rfl); simp only [Act.put, List.setIfInBounds_toArray, List.set_cons_zero, List.set_cons_succ]
  refine Lex3.run_load (v := ?_) (by rfl) (by kernel_rfl) (fun u hu => ?_) ?_; rotate_left; (obtain ⟨hu0, hu1⟩ := hu; go_simp; try with_reducible rfl); simp only [Act.put, List.setIfInBounds_toArray, List.set_cons_zero, List.set_cons_succ]
  refine Lex3.run_free (v := ?_) (by rfl) (by kernel_rfl) (fun u => ?_) ?_; rotate_left; (go_simp; try with_reducible rfl); simp only [Act.put, List.setIfInBounds_toArray, List.set_cons_zero, List.set_cons_succ]
  refine Lex3.run_load (v := ?_) (by rfl) (by kernel_rfl) (fun u hu => ?_) ?_; rotate_left; (obtain ⟨hu0, hu1⟩ := hu; go_simp; try with_reducible rfl); simp only [Act.put, List.setIfInBounds_toArray, List.set_cons_zero, List.set_cons_succ]
  refine Lex3.run_eff (by rfl) (by rfl) (fun n'' K' hK => ?_)
  go_simp
  refine (near_any bq gq W H cq zs a b _ (hq.drewN _)).mono ?_
  rintro e w2 ⟨rfl, k4, rfl⟩
  refine hK _ _ ⟨o3, o4⟩ ?_
  clear hK K'
  try simp only [Act.put, List.setIfInBounds_toArray, List.set_cons_zero, List.set_cons_succ]
  refine Lex3.run_free (v := ?_) (by rfl) (by kernel_rfl) (fun u => ?_) ?_; rotate_left; (go_simp; try with_reducible rfl); simp only [Act.put, List.setIfInBounds_toArray, List.set_cons_zero, List.set_cons_succ]
  refine Lex3.run_free (v := ?_) (by rfl) (by rfl) (fun u => ?_) ?_; rotate_left; (go_simp; try with_reducible rfl); simp only [Act.put, List.setIfInBounds_toArray, List.set_cons_zero, List.set_cons_succ]
  refine Lex3.run_free (v := ?_) (by rfl) (by rfl) (fun u => ?_) ?_; rotate_left; (go_simp; try with_reducible rfl); simp only [Act.put, List.setIfInBounds_toArray, List.set_cons_zero, List.set_cons_succ]
  refine Lex3.run_free (v := ?_) (by rfl) (by rfl) (fun u => ?_) ?_; rotate_left; (go_simp; try with_reducible rfl); simp only [Act.put, List.setIfInBounds_toArray, List.set_cons_zero, List.set_cons_succ]
  refine Lex3.run_eff (by rfl) (by rfl) (fun n9 K' hK => ?_)
  go_simp
  refine hK _ _ ⟨by rw [(hT _).cell]; rfl, by rw [(hT _).cell]; rfl⟩ ?_
  clear hK K'
  try simp only [Act.put, List.setIfInBounds_toArray, List.set_cons_zero, List.set_cons_succ]

  refine Lex3.run_nil (fun n3 => ?_)
  go_wp2_with fail
  refine bodyPost_end (results_none rfl _ _ _) rfl ?_
  exact Goes.same (below_drewN ((h1.drewN _).markB (below_drewN b1 _)) _) ((h1.drewN _).mark.drewN _) hz hn

set_option maxRecDepth 100000 in
set_option maxHeartbeats 8000000 in
theorem ask_tile (base B n : Nat) (r : Nat → Nat) (vp vq : Value) (es : List Ent) (I J a b c d v : Int) (A : Option Addr) (m mc : Nat) (w : World) (h : Book base w B r vp vq (es.map pP) (es.map pQ) es) (hz : ∀ e ∈ es, e.zp = e.zq) (hn : es.length = n) (hm : n ≤ 8388608) (k j : Nat) (e1 : Ent) (hk : es[k]? = some e1) :
    Calls Try.prog 106 #[.pointer (some ⟨B, 0, none⟩), .agg #[.int .i64 5, .int .i64 I, .int .i64 J, .int .i64 a, .int .i64 b, .int .i64 c, .int .i64 d, .int .i64 v, .slice A m mc], .int .i64 k, .int .i64 j] w (Goes base B n w) := by
  obtain ⟨bp, gp, cp, bq, gq, cq, W, H, zs, zs', rfl⟩ : ∃ bp gp cp bq gq cq W H zs zs', e1 = ⟨bp, gp, cp, bq, gq, cq, W, H, zs, zs'⟩ := ⟨_, _, _, _, _, _, _, _, _, _, rfl⟩
  obtain rfl : zs = zs' := hz _ (List.mem_of_getElem? hk)
  have hkn : k < n := by rw [← hn]; exact (List.getElem?_eq_some_iff.1 hk).1
  obtain ⟨r1, h1, f1, hrt, t1, b1⟩ := h.box #[.int .i64 5, .int .i64 I, .int .i64 J, .int .i64 a, .int .i64 b, .int .i64 c, .int .i64 d, .int .i64 v, .slice A m mc] 119
  go_enter Try.func106, Try.ntmps106
  go_upto_region 1 with fail
  generalize (w.alloc (.cells #[.int .i64 5, .int .i64 I, .int .i64 J, .int .i64 a, .int .i64 b, .int .i64 c, .int .i64 d, .int .i64 v, .slice A m mc] 119)) = w1 at h1 f1 t1 b1 ⊢
  generalize w.heap.size = t at hrt t1 ⊢
  have o0 : w1.cell? ⟨t, 0, none⟩ = some (.int .i64 5) := by rw [t1.cell]; rfl
  have o3 : w1.cell? ⟨t, 3, none⟩ = some (.int .i64 a) := by rw [t1.cell]; rfl
  have o4 : w1.cell? ⟨t, 4, none⟩ = some (.int .i64 b) := by rw [t1.cell]; rfl
  obtain ⟨gP, cP, gQ, cQ, rfl, rfl, e1, e2⟩ := h1.see n hn hk
  dsimp only at e1 e2
  have c0 := h1.p0
  have c1 := h1.p1
  obtain ⟨⟨hp, hq⟩, _⟩ := h1.ent k _ hk
  dsimp only at hp hq
  go_upto_region 9 with fail
  refine Lex3.wp_region_lex [] (fun u => u.cell? ⟨t, 3, none⟩ = some (.int .i64 a) ∧ u.cell? ⟨t, 4, none⟩ = some (.int .i64 b)) (fun u n h => h) ⟨o3, o4⟩ (by kernel_rfl) (by kernel_rfl) ?_
  refine Lex3.run_free (v := ?_) (by rfl) (by rfl) (fun u => ?_) ?_; rotate_left; (go_simp; try with_reducible rfl); simp only [Act.put, List.setIfInBounds_toArray, List.set_cons_zero, List.set_cons_succ]
  refine Lex3.run_free (v := ?_) (by rfl) (by rfl) (fun u => ?_) ?_; rotate_left; (go_simp; try with_reducible rfl); simp only [Act.put, List.setIfInBounds_toArray, List.set_cons_zero, List.set_cons_succ]
  refine Lex3.run_free (v := ?_) (by rfl) (by rfl) (fun u => ?_) ?_; rotate_left; (go_simp; try with_reducible rfl); simp only [Act.put, List.setIfInBounds_toArray, List.set_cons_zero, List.set_cons_succ]
  refine Lex3.run_load (v := ?_) (by rfl) (by rfl) (fun u hu => ?_) ?_; rotate_left; (obtain ⟨hu0, hu1⟩ := hu; go_simp; try with_reducible rfl); simp only [Act.put, List.setIfInBounds_toArray, List.set_cons_zero, List.set_cons_succ]
  refine Lex3.run_free (v := ?_) (by rfl) (by rfl) (fun u => ?_) ?_; rotate_left; (go_simp; try with_reducible rfl); simp only [Act.put, List.setIfInBounds_toArray, List.set_cons_zero, List.set_cons_succ]
  refine Lex3.run_load (v := ?_) (by rfl) (by rfl) (fun u hu => ?_) ?_; rotate_left; (obtain ⟨hu0, hu1⟩ := hu; go_simp; try with_reducible rfl); simp only [Act.put, List.setIfInBounds_toArray, List.set_cons_zero, List.set_cons_succ]
  refine Lex3.run_eff (by rfl) (by rfl) (fun n' K' hK => ?_)
  go_simp
  refine (tileI bp gp W H cp zs a b _ (hp.drewN _)).mono ?_
  rintro e w2 ⟨rfl, b2⟩
  have t2 := (t1.drewN _).kept b2
  have h2 := (h1.drewN _).below b2
  have b12 := (below_drewN b1 _).trans (b2.mono h1.le)
  have hq2 := (hq.drewN _).below b2
  refine hK _ _ ⟨by rw [t2.cell]; rfl, by rw [t2.cell]; rfl⟩ ?_
  clear hK K'
  try simp only [Act.put, List.setIfInBounds_toArray, List.set_cons_zero, List.set_cons_succ]
  refine Lex3.run_free (v := ?_) (by rfl) (by rfl) (fun u => ?_) ?_; rotate_left; (go_simp; try with_reducible rfl); simp only [Act.put, List.setIfInBounds_toArray, List.set_cons_zero, List.set_cons_succ]
  refine Lex3.run_free (v := ?_) (by rfl) (by rfl) (fun u => ?_) ?_; rotate_left; (go_simp; try with_reducible rfl); simp only [Act.put, List.setIfInBounds_toArray, List.set_cons_zero, List.set_cons_succ]
  refine Lex3.run_load (v := ?_) (by rfl) (by rfl) (fun u hu => ?_) ?_; rotate_left; (obtain ⟨hu0, hu1⟩ := hu; go_simp; try with_reducible rfl); simp only [Act.put, List.setIfInBounds_toArray, List.set_cons_zero, List.set_cons_succ]
  refine Lex3.run_free (v := ?_) (by rfl) (by rfl) (fun u => ?_) ?_; rotate_left; (go_simp; try with_reducible rfl); simp only [Act.put, List.setIfInBounds_toArray, List.set_cons_zero, List.set_cons_succ]
  refine Lex3.run_load (v := ?_) (by rfl) (by rfl) (fun u hu => ?_) ?_; rotate_left; (obtain ⟨hu0, hu1⟩ := hu; go_simp; try with_reducible rfl); simp only [Act.put, List.setIfInBounds_toArray, List.set_cons_zero, List.set_cons_succ]
  refine Lex3.run_eff (by rfl) (by rfl) (fun n'' K' hK => ?_)
  go_simp
  refine (tile_any bq gq W H cq zs a b _ (hq2.drewN _)).mono ?_
  rintro e w3 ⟨rfl, b3⟩
  have t3 := (t2.drewN _).kept b3
  have h3 := (h2.drewN _).below b3
  have b13 := (below_drewN b12 _).trans (b3.mono h2.le)
  refine hK _ _ ⟨by rw [t3.cell]; rfl, by rw [t3.cell]; rfl⟩ ?_
  have heq := eq64 (tileC (fun j => .int .i64 (nearZ zs W H (tileX a j) (tileY b j))) (.int .i64 0) 64) (fun j hj => ⟨_, tileC_get _ _ hj⟩)
  generalize tileC (fun j => .int .i64 (nearZ zs W H (tileX a j) (tileY b j))) (.int .i64 0) 64 = TT at heq ⊢
  have hgd := guard64
  have hC2 : ∀ N, (w3.drewN N).cell? ⟨B, 2, none⟩ = some (.bool true) := fun _ => h3.p2
  have hF2 : ∀ N, (w3.drewN N).frozen? ⟨B, 2, none⟩ = false := fun _ => h3.frozen 2
  have hT : ∀ N, Blk ((w3.drewN N).setCell ⟨B, 2, none⟩ (.bool true)) t 119 #[.int .i64 5, .int .i64 I, .int .i64 J, .int .i64 a, .int .i64 b, .int .i64 c, .int .i64 d, .int .i64 v, .slice A m mc] := fun N => (h3.drewN N).markF.blk (t3.drewN N) hrt
  clear hK K'
  try simp only [Act.put, List.setIfInBounds_toArray, List.set_cons_zero, List.set_cons_succ]
  refine Lex3.run_free (v := ?_) (by rfl) (by rfl) (fun u => ?_) ?_; rotate_left; (go_simp; try with_reducible rfl); simp only [Act.put, List.setIfInBounds_toArray, List.set_cons_zero, List.set_cons_succ]
  refine Lex3.run_free (v := ?_) (by rfl) (by rfl) (fun u => ?_) ?_; rotate_left; (go_simp; try with_reducible rfl); simp only [Act.put, List.setIfInBounds_toArray, List.set_cons_zero, List.set_cons_succ]
  refine Lex3.run_free (v := ?_) (by rfl) (by rfl) (fun u => ?_) ?_; rotate_left; (go_simp; try with_reducible rfl); simp only [Act.put, List.setIfInBounds_toArray, List.set_cons_zero, List.set_cons_succ]
  refine Lex3.run_eff (by rfl) (by rfl) (fun n9 K' hK => ?_)
  go_simp
  refine hK _ _ ⟨by rw [(hT _).cell]; rfl, by rw [(hT _).cell]; rfl⟩ ?_
  clear hK K'
  try simp only [Act.put, List.setIfInBounds_toArray, List.set_cons_zero, List.set_cons_succ]

  refine Lex3.run_nil (fun n3 => ?_)
  go_wp2_with fail
  refine bodyPost_end (results_none rfl _ _ _) rfl ?_
  exact Goes.same (below_drewN ((h3.drewN _).markB (below_drewN b13 _)) _) ((h3.drewN _).mark.drewN _) hz hn

set_option maxRecDepth 100000 in
set_option maxHeartbeats 8000000 in
theorem ask_same (base B n : Nat) (r : Nat → Nat) (vp vq : Value) (es : List Ent) (I J a b c d v : Int) (A : Option Addr) (m mc : Nat) (w : World) (h : Book base w B r vp vq (es.map pP) (es.map pQ) es) (hz : ∀ e ∈ es, e.zp = e.zq) (hn : es.length = n) (hm : n ≤ 8388608) (k j : Nat) (e1 : Ent) (hk : es[k]? = some e1) (e2 : Ent) (hj : es[j]? = some e2) :
    Calls Try.prog 106 #[.pointer (some ⟨B, 0, none⟩), .agg #[.int .i64 8, .int .i64 I, .int .i64 J, .int .i64 a, .int .i64 b, .int .i64 c, .int .i64 d, .int .i64 v, .slice A m mc], .int .i64 k, .int .i64 j] w (Goes base B n w) := by
  obtain ⟨bp', gp', cp', bq', gq', cq', W', H', ys, ys', rfl⟩ : ∃ bp gp cp bq gq cq W H zs zs', e2 = ⟨bp, gp, cp, bq, gq, cq, W, H, zs, zs'⟩ := ⟨_, _, _, _, _, _, _, _, _, _, rfl⟩
  obtain rfl : ys = ys' := hz _ (List.mem_of_getElem? hj)
  have hjn : j < n := by rw [← hn]; exact (List.getElem?_eq_some_iff.1 hj).1
  obtain ⟨bp, gp, cp, bq, gq, cq, W, H, zs, zs', rfl⟩ : ∃ bp gp cp bq gq cq W H zs zs', e1 = ⟨bp, gp, cp, bq, gq, cq, W, H, zs, zs'⟩ := ⟨_, _, _, _, _, _, _, _, _, _, rfl⟩
  obtain rfl : zs = zs' := hz _ (List.mem_of_getElem? hk)
  have hkn : k < n := by rw [← hn]; exact (List.getElem?_eq_some_iff.1 hk).1
  obtain ⟨r1, h1, f1, hrt, t1, b1⟩ := h.box #[.int .i64 8, .int .i64 I, .int .i64 J, .int .i64 a, .int .i64 b, .int .i64 c, .int .i64 d, .int .i64 v, .slice A m mc] 119
  go_enter Try.func106, Try.ntmps106
  go_upto_region 1 with fail
  generalize (w.alloc (.cells #[.int .i64 8, .int .i64 I, .int .i64 J, .int .i64 a, .int .i64 b, .int .i64 c, .int .i64 d, .int .i64 v, .slice A m mc] 119)) = w1 at h1 f1 t1 b1 ⊢
  generalize w.heap.size = t at hrt t1 ⊢
  have o0 : w1.cell? ⟨t, 0, none⟩ = some (.int .i64 8) := by rw [t1.cell]; rfl
  obtain ⟨gP, cP, gQ, cQ, rfl, rfl, e1, e2⟩ := h1.see n hn hk
  dsimp only at e1 e2
  have c0 := h1.p0
  have c1 := h1.p1
  obtain ⟨⟨hp, hq⟩, _⟩ := h1.ent k _ hk
  dsimp only at hp hq
  have d1 := h1.cellP hn hj
  have d2 := h1.cellQ hn hj
  dsimp only at d1 d2
  obtain ⟨⟨hp', hq'⟩, _⟩ := h1.ent j _ hj
  dsimp only at hp' hq'
  have w0 := hq.c0
  have w1' := hq.c1
  have hC2 : ∀ N, (w1.drewN N).cell? ⟨B, 2, none⟩ = some (.bool true) := fun _ => h1.p2
  have hF2 : ∀ N, (w1.drewN N).frozen? ⟨B, 2, none⟩ = false := fun _ => h1.frozen 2
  have hT : ∀ N, Blk ((w1.drewN N).setCell ⟨B, 2, none⟩ (.bool true)) t 119 #[.int .i64 8, .int .i64 I, .int .i64 J, .int .i64 a, .int .i64 b, .int .i64 c, .int .i64 d, .int .i64 v, .slice A m mc] := fun N => (h1.drewN N).markF.blk (t1.drewN N) hrt
  go_wp2_with fail
  refine (PI.size_any bp gp W H cp _ w1 hp).mono ?_
  rintro e w2 ⟨rfl, k1, rfl⟩
  go_upto_region 12 with fail
  refine Lex3.wp_region_lex [] (fun u => u.cell? ⟨B, 0, none⟩ = some (.slice (some ⟨gP, 0, none⟩) n cP) ∧ u.cell? ⟨B, 1, none⟩ = some (.slice (some ⟨gQ, 0, none⟩) n cQ) ∧ u.cell? ⟨gP, j, none⟩ = some (.pointer (some ⟨bp', 0, none⟩)) ∧ u.cell? ⟨gQ, j, none⟩ = some (.pointer (some ⟨bq', 0, none⟩)) ∧ u.cell? ⟨bq, 0, none⟩ = some (.int .i64 W) ∧ u.cell? ⟨bq, 1, none⟩ = some (.int .i64 H)) (fun u n h => h) ⟨c0, c1, d1, d2, w0, w1'⟩ (by kernel_rfl) (by kernel_rfl) ?_
  refine Lex3.run_free (v := ?_) (by rfl) (by rfl) (fun u => ?_) ?_; rotate_left; (go_simp; try with_reducible rfl); simp only [Act.put, List.setIfInBounds_toArray, List.set_cons_zero, List.set_cons_succ]
  refine Lex3.run_free (v := ?_) (by rfl) (by rfl) (fun u => ?_) ?_; rotate_left; (go_simp; try with_reducible rfl); simp only [Act.put, List.setIfInBounds_toArray, List.set_cons_zero, List.set_cons_succ]
  refine Lex3.run_free (v := ?_) (by rfl) (by rfl) (fun u => ?_) ?_; rotate_left; (go_simp; try with_reducible rfl); simp only [Act.put, List.setIfInBounds_toArray, List.set_cons_zero, List.set_cons_succ]
  refine Lex3.run_free (v := ?_) (by rfl) (by rfl) (fun u => ?_) ?_; rotate_left; (go_simp; try with_reducible rfl); simp only [Act.put, List.setIfInBounds_toArray, List.set_cons_zero, List.set_cons_succ]
  refine Lex3.run_free (v := ?_) (by rfl) (by rfl) (fun u => ?_) ?_; rotate_left; (go_simp; try with_reducible rfl); simp only [Act.put, List.setIfInBounds_toArray, List.set_cons_zero, List.set_cons_succ]
  refine Lex3.run_load (v := ?_) (by rfl) (by rfl) (fun u hu => ?_) ?_; rotate_left; (obtain ⟨hu0, hu1, hu2, hu3, hu4, hu5⟩ := hu; go_simp; try with_reducible rfl); simp only [Act.put, List.setIfInBounds_toArray, List.set_cons_zero, List.set_cons_succ]
  refine Lex3.run_free (v := ?_) (by rfl) (by rfl) (fun u => ?_) ?_; rotate_left; (go_simp; try with_reducible rfl); simp only [Act.put, List.setIfInBounds_toArray, List.set_cons_zero, List.set_cons_succ]
  refine Lex3.run_free (v := ?_) (by rfl) (by rfl) (fun u => ?_) ?_; rotate_left; (go_simp; try with_reducible rfl); simp only [Act.put, List.setIfInBounds_toArray, List.set_cons_zero, List.set_cons_succ]
  refine Lex3.run_load (v := ?_) (by rfl) (by rfl) (fun u hu => ?_) ?_; rotate_left; (obtain ⟨hu0, hu1, hu2, hu3, hu4, hu5⟩ := hu; go_simp; try with_reducible rfl); simp only [Act.put, List.setIfInBounds_toArray, List.set_cons_zero, List.set_cons_succ]
  refine Lex3.run_eff (by rfl) (by rfl) (fun n' K' hK => ?_)
  go_simp
  refine (PI.same_any bp gp W H cp bp' gp' W' H' cp' zs ys _ (hp.drewN _) (hp'.drewN _)).mono ?_
  rintro e w2 ⟨rfl, k3, rfl⟩
  refine hK _ _ ⟨c0, c1, d1, d2, w0, w1'⟩ ?_
  clear hK K'
  try simp only [Act.put, List.setIfInBounds_toArray, List.set_cons_zero, List.set_cons_succ]
  refine Lex3.run_free (v := ?_) (by rfl) (by rfl) (fun u => ?_) ?_; rotate_left; (go_simp; try with_reducible rfl); simp only [Act.put, List.setIfInBounds_toArray, List.set_cons_zero, List.set_cons_succ]
  refine Lex3.run_free (v := ?_) (by rfl) (by rfl) (fun u => ?_) ?_; rotate_left; (go_simp; try with_reducible rfl); simp only [Act.put, List.setIfInBounds_toArray, List.set_cons_zero, List.set_cons_succ]
  refine Lex3.run_free (v := ?_) (by rfl) (by rfl) (fun u => ?_) ?_; rotate_left; (go_simp; try with_reducible rfl); simp only [Act.put, List.setIfInBounds_toArray, List.set_cons_zero, List.set_cons_succ]
  refine Lex3.run_free (v := ?_) (by rfl) (by rfl) (fun u => ?_) ?_; rotate_left; (go_simp; try with_reducible rfl); simp only [Act.put, List.setIfInBounds_toArray, List.set_cons_zero, List.set_cons_succ]
  refine Lex3.run_load (v := ?_) (by rfl) (by rfl) (fun u hu => ?_) ?_; rotate_left; (obtain ⟨hu0, hu1, hu2, hu3, hu4, hu5⟩ := hu; go_simp; try with_reducible rfl); simp only [Act.put, List.setIfInBounds_toArray, List.set_cons_zero, List.set_cons_succ]
  refine Lex3.run_free (v := ?_) (by rfl) (by rfl) (fun u => ?_) ?_; rotate_left; (go_simp; try with_reducible rfl); simp only [Act.put, List.setIfInBounds_toArray, List.set_cons_zero, List.set_cons_succ]
  refine Lex3.run_free (v := ?_) (by rfl) (by rfl) (fun u => ?_) ?_; rotate_left; (go_simp; try with_reducible rfl); simp only [Act.put, List.setIfInBounds_toArray, List.set_cons_zero, List.set_cons_succ]
  refine Lex3.run_load (v := ?_) (by rfl) (by rfl) (fun u hu => ?_) ?_; rotate_left; (obtain ⟨hu0, hu1, hu2, hu3, hu4, hu5⟩ := hu; go_simp; try with_reducible rfl); simp only [Act.put, List.setIfInBounds_toArray, List.set_cons_zero, List.set_cons_succ]
  refine Lex3.run_eff (by rfl) (by rfl) (fun n'' K' hK => ?_)
  go_simp
  refine (same_any bq gq W H cq bq' gq' W' H' cq' zs ys _ (hq.drewN _) (hq'.drewN _)).mono ?_
  rintro e w2 ⟨rfl, k4, rfl⟩
  refine hK _ _ ⟨c0, c1, d1, d2, w0, w1'⟩ ?_
  generalize PI.sameB W H W' H' zs ys = sb
  clear hK K'
  try simp only [Act.put, List.setIfInBounds_toArray, List.set_cons_zero, List.set_cons_succ]
  refine Lex3.run_free (v := ?_) (by rfl) (by rfl) (fun u => ?_) ?_; rotate_left; (go_simp; try with_reducible rfl); simp only [Act.put, List.setIfInBounds_toArray, List.set_cons_zero, List.set_cons_succ]
  refine Lex3.run_free (v := ?_) (by rfl) (by rfl) (fun u => ?_) ?_; rotate_left; (go_simp; try with_reducible rfl); simp only [Act.put, List.setIfInBounds_toArray, List.set_cons_zero, List.set_cons_succ]
  refine Lex3.run_free (v := ?_) (by rfl) (by kernel_rfl) (fun u => ?_) ?_; rotate_left; (go_simp; try with_reducible rfl); simp only [Act.put, List.setIfInBounds_toArray, List.set_cons_zero, List.set_cons_succ]
  refine Lex3.run_free (v := ?_) (by rfl) (by kernel_rfl) (fun u => ?_) ?_; rotate_left; (go_simp; try with_reducible rfl); simp only [Act.put, List.setIfInBounds_toArray, List.set_cons_zero, List.set_cons_succ]
  refine Lex3.run_free (v := ?_) (by rfl) (by kernel_rfl) (fun u => ?_) ?_; rotate_left; (go_simp; try with_reducible rfl); simp only [Act.put, List.setIfInBounds_toArray, List.set_cons_zero, List.set_cons_succ]
  refine Lex3.run_free (v := ?_) (by rfl) (by kernel_rfl) (fun u => ?_) ?_; rotate_left; (go_simp; try with_reducible rfl); simp only [Act.put, List.setIfInBounds_toArray, List.set_cons_zero, List.set_cons_succ]
  refine Lex3.run_load (v := ?_) (by rfl) (by kernel_rfl) (fun u hu => ?_) ?_; rotate_left; (obtain ⟨hu0, hu1, hu2, hu3, hu4, hu5⟩ := hu; go_simp; try with_reducible rfl); simp only [Act.put, List.setIfInBounds_toArray, List.set_cons_zero, List.set_cons_succ]
  refine Lex3.run_free (v := ?_) (by rfl) (by kernel_rfl) (fun u => ?_) ?_; rotate_left; (go_simp; try with_reducible rfl); simp only [Act.put, List.setIfInBounds_toArray, List.set_cons_zero, List.set_cons_succ]
  refine Lex3.run_free (v := ?_) (by rfl) (by rfl) (fun u => ?_) ?_; rotate_left; (go_simp; try with_reducible rfl); simp only [Act.put, List.setIfInBounds_toArray, List.set_cons_zero, List.set_cons_succ]
  refine Lex3.run_free (v := ?_) (by rfl) (by rfl) (fun u => ?_) ?_; rotate_left; (go_simp; try with_reducible rfl); simp only [Act.put, List.setIfInBounds_toArray, List.set_cons_zero, List.set_cons_succ]
  refine Lex3.run_free (v := ?_) (by rfl) (by kernel_rfl) (fun u => ?_) ?_; rotate_left; (go_simp; try with_reducible rfl); simp only [Act.put, List.setIfInBounds_toArray, List.set_cons_zero, List.set_cons_succ]
  refine Lex3.run_free (v := ?_) (by rfl) (by kernel_rfl) (fun u => ?_) ?_; rotate_left; (go_simp; try with_reducible rfl); simp only [Act.put, List.setIfInBounds_toArray, List.set_cons_zero, List.set_cons_succ]
  refine Lex3.run_free (v := ?_) (by rfl) (by kernel_rfl) (fun u => ?_) ?_; rotate_left; (go_simp; try with_reducible rfl); simp only [Act.put, List.setIfInBounds_toArray, List.set_cons_zero, List.set_cons_succ]
  refine Lex3.run_free (v := ?_) (by rfl) (by kernel_rfl) (fun u => ?_) ?_; rotate_left; (go_simp; try with_reducible rfl); simp only [Act.put, List.setIfInBounds_toArray, List.set_cons_zero, List.set_cons_succ]
  refine Lex3.run_load (v := ?_) (by rfl) (by kernel_rfl) (fun u hu => ?_) ?_; rotate_left; (obtain ⟨hu0, hu1, hu2, hu3, hu4, hu5⟩ := hu; go_simp; try with_reducible rfl); simp only [Act.put, List.setIfInBounds_toArray, List.set_cons_zero, List.set_cons_succ]
  refine Lex3.run_free (v := ?_) (by rfl) (by kernel_rfl) (fun u => ?_) ?_; rotate_left; (go_simp; try with_reducible rfl); simp only [Act.put, List.setIfInBounds_toArray, List.set_cons_zero, List.set_cons_succ]
  refine Lex3.run_free (v := ?_) (by rfl) (by rfl) (fun u => ?_) ?_; rotate_left; (go_simp; try with_reducible rfl); simp only [Act.put, List.setIfInBounds_toArray, List.set_cons_zero, List.set_cons_succ]
  refine Lex3.run_free (v := ?_) (by rfl) (by rfl) (fun u => ?_) ?_; rotate_left; (go_simp; try with_reducible rfl); simp only [Act.put, List.setIfInBounds_toArray, List.set_cons_zero, List.set_cons_succ]
  refine Lex3.run_free (v := ?_) (by rfl) (by rfl) (fun u => ?_) ?_; rotate_left; (go_simp; try with_reducible rfl); simp only [Act.put, List.setIfInBounds_toArray, List.set_cons_zero, List.set_cons_succ]
  refine Lex3.run_eff (by rfl) (by rfl) (fun n9 K' hK => ?_)
  go_simp
  have hM : ∀ N, Book base ((w1.drewN N).setCell ⟨B, 2, none⟩ (.bool true)) B r1 _ _ _ _ es := fun N => (h1.drewN N).mark
  refine hK _ _ ⟨(hM _).p0, (hM _).p1, (hM _).cellP hn hj, (hM _).cellQ hn hj, ((hM _).ent k _ hk).1.2.c0, ((hM _).ent k _ hk).1.2.c1⟩ ?_
  clear hK K'
  try simp only [Act.put, List.setIfInBounds_toArray, List.set_cons_zero, List.set_cons_succ]

  refine Lex3.run_nil (fun n3 => ?_)
  go_wp2_with fail
  refine bodyPost_end (results_none rfl _ _ _) rfl ?_
  exact Goes.same (below_drewN ((h1.drewN _).markB (below_drewN b1 _)) _) ((h1.drewN _).mark.drewN _) hz hn

set_option maxRecDepth 100000 in
set_option maxHeartbeats 8000000 in
theorem ask_ends (base B n : Nat) (r : Nat → Nat) (vp vq : Value) (es : List Ent) (I J a b c d v : Int) (A : Option Addr) (m mc : Nat) (w : World) (h : Book base w B r vp vq (es.map pP) (es.map pQ) es) (hz : ∀ e ∈ es, e.zp = e.zq) (hn : es.length = n) (hm : n ≤ 8388608) (k j : Nat) (e1 : Ent) (hk : es[k]? = some e1) :
    Calls Try.prog 106 #[.pointer (some ⟨B, 0, none⟩), .agg #[.int .i64 9, .int .i64 I, .int .i64 J, .int .i64 a, .int .i64 b, .int .i64 c, .int .i64 d, .int .i64 v, .slice A m mc], .int .i64 k, .int .i64 j] w (Goes base B n w) := by
  obtain ⟨bp, gp, cp, bq, gq, cq, W, H, zs, zs', rfl⟩ : ∃ bp gp cp bq gq cq W H zs zs', e1 = ⟨bp, gp, cp, bq, gq, cq, W, H, zs, zs'⟩ := ⟨_, _, _, _, _, _, _, _, _, _, rfl⟩
  obtain rfl : zs = zs' := hz _ (List.mem_of_getElem? hk)
  have hkn : k < n := by rw [← hn]; exact (List.getElem?_eq_some_iff.1 hk).1
  obtain ⟨r1, h1, f1, hrt, t1, b1⟩ := h.box #[.int .i64 9, .int .i64 I, .int .i64 J, .int .i64 a, .int .i64 b, .int .i64 c, .int .i64 d, .int .i64 v, .slice A m mc] 119
  go_enter Try.func106, Try.ntmps106
  go_upto_region 1 with fail
  generalize (w.alloc (.cells #[.int .i64 9, .int .i64 I, .int .i64 J, .int .i64 a, .int .i64 b, .int .i64 c, .int .i64 d, .int .i64 v, .slice A m mc] 119)) = w1 at h1 f1 t1 b1 ⊢
  generalize w.heap.size = t at hrt t1 ⊢
  have o0 : w1.cell? ⟨t, 0, none⟩ = some (.int .i64 9) := by rw [t1.cell]; rfl
  obtain ⟨gP, cP, gQ, cQ, rfl, rfl, e1, e2⟩ := h1.see n hn hk
  dsimp only at e1 e2
  have c0 := h1.p0
  have c1 := h1.p1
  obtain ⟨⟨hp, hq⟩, _⟩ := h1.ent k _ hk
  dsimp only at hp hq
  have hC2 : ∀ N, (w1.drewN N).cell? ⟨B, 2, none⟩ = some (.bool true) := fun _ => h1.p2
  have hF2 : ∀ N, (w1.drewN N).frozen? ⟨B, 2, none⟩ = false := fun _ => h1.frozen 2
  have hT : ∀ N, Blk ((w1.drewN N).setCell ⟨B, 2, none⟩ (.bool true)) t 119 #[.int .i64 9, .int .i64 I, .int .i64 J, .int .i64 a, .int .i64 b, .int .i64 c, .int .i64 d, .int .i64 v, .slice A m mc] := fun N => (h1.drewN N).markF.blk (t1.drewN N) hrt
  have hsome : (PI.endsL zs).2.2 = true := ends_some (by
    have hl : zs.length = W * H := by simpa using hp.len
    rw [hl]
    exact Nat.mul_le_mul hp.wide hp.high)
  go_wp2_with fail
  refine (PI.ends_any bp gp W H cp zs w1 hp).mono ?_
  rintro e w2 ⟨rfl, k1, rfl⟩
  go_wp2_with fail
  refine (ends_any bq gq W H cq zs (w1.drewN k1) (hq.drewN k1)).mono ?_
  rintro e w2 ⟨rfl, k2, rfl⟩
  try rw [hsome]
  generalize (PI.endsL zs).1 = l1
  generalize (PI.endsL zs).2.1 = l2
  go_wp2_with fail
  refine bodyPost_end (results_none rfl _ _ _) rfl ?_
  exact Goes.same ((h1.drewN _).markB (below_drewN b1 _)) ((h1.drewN _).mark) hz hn
end Go.Proofs.Ytlbocfinjlkebaa.Scr
