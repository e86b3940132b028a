/- PlaneScript: mapped. -/
import Derived.Test.YtlbocfinjlkebaaSci
import Derived.Test.YtlbocfinjlkebaaScc
import Derived.Test.YtlbocfinjlkebaaLex2
import Derived.Test.YtlbocfinjlkebaaLex3
namespace Go.Proofs.Ytlbocfinjlkebaa.Scr
open Go.RowKit Go.Proofs.Ytlbocfinjlkebaa.Byt Go.Proofs.Ytlbocfinjlkebaa.R12

set_option maxRecDepth 100000 in
set_option maxHeartbeats 16000000 in
theorem mapped_any (base B n : Nat) (r : Nat → Nat) (vp vq : Value) (es : List Ent) (K I J a b c d v : Int) (A : Option Addr) (m mc : Nat) (w : World) (h : Book base w B r vp vq (es.map pP) (es.map pQ) es) (hz : ∀ e ∈ es, e.zp = e.zq) (hn : es.length = n) (hm : n ≤ 8388608) (k : Nat) (e1 : Ent) (hk : es[k]? = some e1) :
    Calls Try.prog 103 #[.pointer (some ⟨B, 0, none⟩), .agg #[.int .i64 K, .int .i64 I, .int .i64 J, .int .i64 a, .int .i64 b, .int .i64 c, .int .i64 d, .int .i64 v, .slice A m mc], .int .i64 k] w (Goes base B n w) := by
  obtain ⟨i0, hi, hz0, hz1, hz2⟩ := info_parts PI.info
  obtain ⟨j0, i0h, i0z, i0s, i0b⟩ := info_parts infoP
  obtain ⟨j1, i1h, i1z, i1s, i1b⟩ := info_parts infoQ
  obtain ⟨bp, gp, cp, bq, gq, cq, W, H, zs, zs', rfl⟩ : ∃ bp gp cp bq gq cq W H zs zs', e1 = ⟨bp, gp, cp, bq, gq, cq, W, H, zs, zs'⟩ := ⟨_, _, _, _, _, _, _, _, _, _, rfl⟩
  obtain rfl : zs = zs' := hz _ (List.mem_of_getElem? hk)
  have hkn : k < n := by rw [← hn]; exact (List.getElem?_eq_some_iff.1 hk).1
  obtain ⟨r1, h0, hS, f0⟩ := h.fresh
  have HSs := Lib.hid hS; clear hS
  obtain ⟨gP, cP, gQ, cQ, rfl, rfl, e1, e2⟩ := h0.see n hn hk
  dsimp only at e1 e2
  obtain ⟨⟨hp, hq⟩, _⟩ := h0.ent k _ hk
  dsimp only at hp hq
  have hW := hp.wide
  have hH := hp.high
  have hsz := hp.size
  have hsd := hp.side
  have hl : zs.length = W * H := by simpa using hp.len
  have hlt0 := h0.lt
  go_enter Try.func103, Try.ntmps103
  go_upto_region 2 with fail
  have b2 : Below w.heap.size w ((w.alloc (.cells #[.int .i64 K, .int .i64 I, .int .i64 J, .int .i64 a, .int .i64 b, .int .i64 c, .int .i64 d, .int .i64 v, .slice A m mc] 119)).alloc (.cells #[.slice none 0 0] 50)) := ((Below.refl _ _).alloc (Nat.le_refl _) _).alloc (by simp) _
  have t2 : Blk ((w.alloc (.cells #[.int .i64 K, .int .i64 I, .int .i64 J, .int .i64 a, .int .i64 b, .int .i64 c, .int .i64 d, .int .i64 v, .slice A m mc] 119)).alloc (.cells #[.slice none 0 0] 50)) w.heap.size 119 #[.int .i64 K, .int .i64 I, .int .i64 J, .int .i64 a, .int .i64 b, .int .i64 c, .int .i64 d, .int .i64 v, .slice A m mc] := heap_alloc2_old w _ _
  have a2 : Blk ((w.alloc (.cells #[.int .i64 K, .int .i64 I, .int .i64 J, .int .i64 a, .int .i64 b, .int .i64 c, .int .i64 d, .int .i64 v, .slice A m mc] 119)).alloc (.cells #[.slice none 0 0] 50)) (w.heap.size + 1) 50 #[.slice none 0 0] := heap_alloc2_new w _ _
  generalize ((w.alloc (.cells #[.int .i64 K, .int .i64 I, .int .i64 J, .int .i64 a, .int .i64 b, .int .i64 c, .int .i64 d, .int .i64 v, .slice A m mc] 119)).alloc (.cells #[.slice none 0 0] 50)) = w2 at b2 t2 a2 ⊢
  have c0 : w2.cell? ⟨B, 0, none⟩ = some (.slice (some ⟨gP, 0, none⟩) n cP) := below_cell b2 h0.p0
  have e1' := below_cell b2 e1
  generalize hS : w.heap.size = S at t2 a2 ⊢
  have HS := Lib.hid hS; clear hS
  have b2S : Below S w w2 := by rw [← HS.out]; exact b2
  have bS : base ≤ S := by rw [← HS.out]; exact h0.le
  have BS : B < S := by rw [← HS.out]; exact hlt0
  go_wp2_with fail
  refine (mapQ_any S (S + 1) S bp gp W H cp zs v #[.int .i64 K, .int .i64 I, .int .i64 J, .int .i64 a, .int .i64 b, .int .i64 c, .int .i64 d, .int .i64 v, .slice A m mc] w2 (hp.below b2) (by rw [← HS.out]; exact hp.blt) (by rw [← HS.out]; exact hp.glt) a2 t2 rfl (by omega) (by omega)).mono ?_
  rintro e w3 ⟨p1, g1, c1, va, rfl, hp3, hp1, hg1, qa, qo, n1, n2, qt, b3⟩
  have hw2 : S ≤ w2.heap.size := by rw [← HS.out]; exact b2.size
  have b03 : Below S w w3 := b2S.trans b3
  obtain ⟨N, hN⟩ : ∃ N, W * H = N := ⟨_, rfl⟩
  have hN1 : 1 ≤ N := by rw [← hN]; exact Nat.mul_le_mul hW hH
  rw [hN] at hsz hl qo
  have HN := Lib.hid hN; clear hN
  have U : ∀ u, Below S w u → Book base u B r1 _ _ (es.map pP) (es.map pQ) es := fun u hb => h0.under (S := S) (by rw [← HS.out]; exact HSs.out) hb
  clear c0 e1' e1 e2 a2 t2
  have fB : ∀ u, Below S w u → u.cell? ⟨B, 1, none⟩ = some (.slice (some ⟨gQ, 0, none⟩) n cQ) := fun u hb => (U u hb).p1
  have fG : ∀ u, Below S w u → u.cell? ⟨gQ, k, none⟩ = some (.pointer (some ⟨bq, 0, none⟩)) := fun u hb => (U u hb).cellQ hn hk
  have fW : ∀ u, Below S w u → u.cell? ⟨bq, 0, none⟩ = some (.int .i64 W) := fun u hb => ((U u hb).ent k _ hk).1.2.c0
  have fH : ∀ u, Below S w u → u.cell? ⟨bq, 1, none⟩ = some (.int .i64 H) := fun u hb => ((U u hb).ent k _ hk).1.2.c1
  have fC : ∀ u, Below S w u → u.cell? ⟨bq, 2, none⟩ = some (.slice (some ⟨gq, 0, none⟩) N cq) := fun u hb => by rw [← HN.out]; exact ((U u hb).ent k _ hk).1.2.c2
  have fZ : ∀ u j, Below S w u → j < N → u.cell? ⟨gq, j, none⟩ = some (.int .i64 (zs.getD j 0)) := fun u j hb hj => ((U u hb).ent k _ hk).1.2.cellZ (by dsimp only; rw [HN.out]; exact hj)
  have HU := Lib.hid (And.intro U (And.intro fB (And.intro fG (And.intro fW (And.intro fH (And.intro fC fZ))))))
  clear U fB fG fW fH fC fZ
  have hS3 : S ≤ w3.heap.size := Nat.le_trans hw2 b3.size
  go_upto_region 3 with fail
  refine Lex3.wp_region_lex [] (fun u => u.cell? ⟨B, 1, none⟩ = some (.slice (some ⟨gQ, 0, none⟩) n cQ) ∧ u.cell? ⟨gQ, k, none⟩ = some (.pointer (some ⟨bq, 0, none⟩)) ∧ u.cell? ⟨bq, 0, none⟩ = some (.int .i64 W) ∧ u.cell? ⟨bq, 1, none⟩ = some (.int .i64 H)) (fun u n h => h) ⟨HU.out.2.1 _ b03, HU.out.2.2.1 _ b03, HU.out.2.2.2.1 _ b03, HU.out.2.2.2.2.1 _ b03⟩ (by kernel_rfl) (by kernel_rfl) ?_
  refine Lex3.run_free (v := ?_) (by rfl) (by rfl) (fun u => ?_) ?_; rotate_left; (go_simp; try with_reducible rfl); simp only [Act.put, List.setIfInBounds_toArray, List.set_cons_zero, List.set_cons_succ]
  refine Lex3.run_free (v := ?_) (by rfl) (by rfl) (fun u => ?_) ?_; rotate_left; (go_simp; try with_reducible rfl); simp only [Act.put, List.setIfInBounds_toArray, List.set_cons_zero, List.set_cons_succ]
  refine Lex3.run_free (v := ?_) (by rfl) (by rfl) (fun u => ?_) ?_; rotate_left; (go_simp; try with_reducible rfl); simp only [Act.put, List.setIfInBounds_toArray, List.set_cons_zero, List.set_cons_succ]
  refine Lex3.run_load (v := ?_) (by rfl) (by rfl) (fun u hu => ?_) ?_; rotate_left; (obtain ⟨hu0, hu1, hu2, hu3⟩ := hu; go_simp; try with_reducible rfl); simp only [Act.put, List.setIfInBounds_toArray, List.set_cons_zero, List.set_cons_succ]
  refine Lex3.run_free (v := ?_) (by rfl) (by rfl) (fun u => ?_) ?_; rotate_left; (go_simp; try with_reducible rfl); simp only [Act.put, List.setIfInBounds_toArray, List.set_cons_zero, List.set_cons_succ]
  refine Lex3.run_free (v := ?_) (by rfl) (by rfl) (fun u => ?_) ?_; rotate_left; (go_simp; try with_reducible rfl); simp only [Act.put, List.setIfInBounds_toArray, List.set_cons_zero, List.set_cons_succ]
  refine Lex3.run_load (v := ?_) (by rfl) (by rfl) (fun u hu => ?_) ?_; rotate_left; (obtain ⟨hu0, hu1, hu2, hu3⟩ := hu; go_simp; try with_reducible rfl); simp only [Act.put, List.setIfInBounds_toArray, List.set_cons_zero, List.set_cons_succ]
  refine Lex3.run_free (v := ?_) (by rfl) (by rfl) (fun u => ?_) ?_; rotate_left; (go_simp; try with_reducible rfl); simp only [Act.put, List.setIfInBounds_toArray, List.set_cons_zero, List.set_cons_succ]
  refine Lex3.run_free (v := ?_) (by rfl) (by rfl) (fun u => ?_) ?_; rotate_left; (go_simp; try with_reducible rfl); simp only [Act.put, List.setIfInBounds_toArray, List.set_cons_zero, List.set_cons_succ]
  refine Lex3.run_load (v := ?_) (by rfl) (by rfl) (fun u hu => ?_) ?_; rotate_left; (obtain ⟨hu0, hu1, hu2, hu3⟩ := hu; go_simp; try with_reducible rfl); simp only [Act.put, List.setIfInBounds_toArray, List.set_cons_zero, List.set_cons_succ]
  refine Lex3.run_free (v := ?_) (by rfl) (by rfl) (fun u => ?_) ?_; rotate_left; (go_simp; try with_reducible rfl); simp only [Act.put, List.setIfInBounds_toArray, List.set_cons_zero, List.set_cons_succ]
  refine Lex3.run_free (v := ?_) (by rfl) (by rfl) (fun u => ?_) ?_; rotate_left; (go_simp; try with_reducible rfl); simp only [Act.put, List.setIfInBounds_toArray, List.set_cons_zero, List.set_cons_succ]
  refine Lex3.run_free (v := ?_) (by rfl) (by rfl) (fun u => ?_) ?_; rotate_left; (go_simp; try with_reducible rfl); simp only [Act.put, List.setIfInBounds_toArray, List.set_cons_zero, List.set_cons_succ]
  refine Lex3.run_load (v := ?_) (by rfl) (by rfl) (fun u hu => ?_) ?_; rotate_left; (obtain ⟨hu0, hu1, hu2, hu3⟩ := hu; go_simp; try with_reducible rfl); simp only [Act.put, List.setIfInBounds_toArray, List.set_cons_zero, List.set_cons_succ]
  refine Lex3.run_free (v := ?_) (by rfl) (by rfl) (fun u => ?_) ?_; rotate_left; (go_simp; try with_reducible rfl); simp only [Act.put, List.setIfInBounds_toArray, List.set_cons_zero, List.set_cons_succ]
  refine Lex3.run_free (v := ?_) (by rfl) (by rfl) (fun u => ?_) ?_; rotate_left; (go_simp; try with_reducible rfl); simp only [Act.put, List.setIfInBounds_toArray, List.set_cons_zero, List.set_cons_succ]
  refine Lex3.run_load (v := ?_) (by rfl) (by rfl) (fun u hu => ?_) ?_; rotate_left; (obtain ⟨hu0, hu1, hu2, hu3⟩ := hu; go_simp; try with_reducible rfl); simp only [Act.put, List.setIfInBounds_toArray, List.set_cons_zero, List.set_cons_succ]
  refine Lex3.run_free (v := ?_) (by rfl) (by rfl) (fun u => ?_) ?_; rotate_left; (go_simp; try with_reducible rfl); simp only [Act.put, List.setIfInBounds_toArray, List.set_cons_zero, List.set_cons_succ]
  refine Lex3.run_free (v := ?_) (by rfl) (by rfl) (fun u => ?_) ?_; rotate_left; (go_simp; try with_reducible rfl); simp only [Act.put, List.setIfInBounds_toArray, List.set_cons_zero, List.set_cons_succ]
  refine Lex3.run_load (v := ?_) (by rfl) (by rfl) (fun u hu => ?_) ?_; rotate_left; (obtain ⟨hu0, hu1, hu2, hu3⟩ := hu; go_simp; try with_reducible rfl); simp only [Act.put, List.setIfInBounds_toArray, List.set_cons_zero, List.set_cons_succ]
  refine Lex3.run_free (v := ?_) (by rfl) (by rfl) (fun u => ?_) ?_; rotate_left; (go_simp; try with_reducible rfl); simp only [Act.put, List.setIfInBounds_toArray, List.set_cons_zero, List.set_cons_succ]
  refine Lex3.run_eff (by rfl) (by rfl) (fun n' K' hK => ?_)
  go_simp
  have b4 : Below w3.heap.size w3 ((w3.drewN (1 + n')).alloc (.cells #[.int .i64 W, .int .i64 H, .slice none 0 0] 122)) := (below_drewN (Below.refl _ _) _).alloc (by simp) _
  have b04 := b03.trans (b4.mono hS3)
  refine hK _ _ ⟨HU.out.2.1 _ b04, HU.out.2.2.1 _ b04, HU.out.2.2.2.1 _ b04, HU.out.2.2.2.2.1 _ b04⟩ ?_
  clear hK K'
  try simp only [Act.put, List.setIfInBounds_toArray, List.set_cons_zero, List.set_cons_succ]
  refine Lex3.run_free (v := ?_) (by rfl) (by rfl) (fun u => ?_) ?_; rotate_left; (go_simp; try with_reducible rfl); simp only [Act.put, List.setIfInBounds_toArray, List.set_cons_zero, List.set_cons_succ]
  refine Lex3.run_nil (fun n3 => ?_)
  have q5 : Blk (((w3.drewN (1 + n')).alloc (.cells #[.int .i64 W, .int .i64 H, .slice none 0 0] 122)).drewN n3) w3.heap.size 122 #[.int .i64 W, .int .i64 H, .slice none 0 0] := (Blk.new (w3.drewN (1 + n')) _ _).drewN n3
  have b5 := below_drewN b4 n3
  generalize (((w3.drewN (1 + n')).alloc (.cells #[.int .i64 W, .int .i64 H, .slice none 0 0] 122)).drewN n3) = w5 at q5 b5 ⊢
  clear b4 b04
  go_wp2_with fail
  go_loopw [9] (fun i wr => ∃ j : Nat, j ≤ N ∧ i = .int .i64 j ∧ CutJ w3 wr W H w3.heap.size j (((zs.take j).map (tri v)).map (.int .i64))) (fun i _ => N - (intOf i).toNat)
  case atStart => exact ⟨0, Nat.zero_le _, rfl, .slice none 0 0, q5, World.ownsRow_nil _ _ _ _, b5, by simp [Value.ownBlock], Nat.le_refl _⟩
  clear q5 b5
  clear w5
  case round =>
    obtain ⟨j, hj, rfl, sv, p1', p2', p3', p4', p5'⟩ := hrel
    have bwr := b03.trans (p3'.mono hS3)
    have b1c := HU.out.2.1 _ bwr
    have gqk := HU.out.2.2.1 _ bwr
    have bq2 := HU.out.2.2.2.2.2.1 _ bwr
    by_cases hlt : j < N
    · have gqj := HU.out.2.2.2.2.2.2 _ _ bwr hlt
      have hnx : ((zs.take (j + 1)).map (tri v)).map (Value.int .i64) = ((zs.take j).map (tri v)).map (Value.int .i64) ++ [.int .i64 (tri v (zs.getD j 0))] := by
        rw [List.take_succ_eq_append_getElem (by omega), List.map_append, List.map_append, List.getD_eq_getElem?_getD, List.getElem?_eq_getElem (by omega)]
        rfl
      obtain ⟨z, hzz⟩ : ∃ z, zs.getD j 0 = z := ⟨_, rfl⟩
      rw [hzz] at gqj hnx
      clear hzz
      have HNX := Lib.hid hnx; clear hnx
      have d2 : wr.cell? ⟨w3.heap.size, 2, none⟩ = some sv := by rw [p1'.cell]; rfl
      have tc7 : wr.cell? ⟨S, 7, none⟩ = some (.int .i64 v) := by rw [(qt.kept p3').cell]; rfl
      have htri : IntKind.i64.wrap (IntKind.i64.wrap (3 * z) + v) = tri v z := by unfold tri; rw [IntWalk.i64_left, IntWalk.i64_left]
      go_upto_region 7 with fail
      refine Lex2.wp_region_lex [] (by kernel_rfl) (by kernel_rfl) ?_
      refine Lex2.run_free (v := ?_) (by rfl) (by rfl) (fun u => ?_) ?_; rotate_left; (go_simp; try with_reducible rfl); simp only [Act.put, List.setIfInBounds_toArray, List.set_cons_zero, List.set_cons_succ]
      refine Lex2.run_free (v := ?_) (by rfl) (by rfl) (fun u => ?_) ?_; rotate_left; (go_simp; try with_reducible rfl); simp only [Act.put, List.setIfInBounds_toArray, List.set_cons_zero, List.set_cons_succ]
      refine Lex2.run_free (v := ?_) (by rfl) (by rfl) (fun u => ?_) ?_; rotate_left; (go_simp; try with_reducible rfl); simp only [Act.put, List.setIfInBounds_toArray, List.set_cons_zero, List.set_cons_succ]
      refine Lex2.run_free (v := ?_) (by rfl) (by rfl) (fun u => ?_) ?_; rotate_left; (go_simp; try with_reducible rfl); simp only [Act.put, List.setIfInBounds_toArray, List.set_cons_zero, List.set_cons_succ]
      refine Lex2.run_load (v := ?_) (by rfl) (by rfl) (fun u hu => ?_) ?_; rotate_left; (have hu0 := hu _ _ d2; have hu1 := hu _ _ b1c; have hu2 := hu _ _ gqk; have hu3 := hu _ _ bq2; have hu4 := hu _ _ gqj; have hu5 := hu _ _ tc7; go_simp; try with_reducible rfl); simp only [Act.put, List.setIfInBounds_toArray, List.set_cons_zero, List.set_cons_succ]
      refine Lex2.run_free (v := ?_) (by rfl) (by rfl) (fun u => ?_) ?_; rotate_left; (go_simp; try with_reducible rfl); simp only [Act.put, List.setIfInBounds_toArray, List.set_cons_zero, List.set_cons_succ]
      refine Lex2.run_free (v := ?_) (by rfl) (by rfl) (fun u => ?_) ?_; rotate_left; (go_simp; try with_reducible rfl); simp only [Act.put, List.setIfInBounds_toArray, List.set_cons_zero, List.set_cons_succ]
      refine Lex2.run_free (v := ?_) (by rfl) (by rfl) (fun u => ?_) ?_; rotate_left; (go_simp; try with_reducible rfl); simp only [Act.put, List.setIfInBounds_toArray, List.set_cons_zero, List.set_cons_succ]
      refine Lex2.run_load (v := ?_) (by rfl) (by rfl) (fun u hu => ?_) ?_; rotate_left; (have hu0 := hu _ _ d2; have hu1 := hu _ _ b1c; have hu2 := hu _ _ gqk; have hu3 := hu _ _ bq2; have hu4 := hu _ _ gqj; have hu5 := hu _ _ tc7; go_simp; try with_reducible rfl); simp only [Act.put, List.setIfInBounds_toArray, List.set_cons_zero, List.set_cons_succ]
      refine Lex2.run_free (v := ?_) (by rfl) (by rfl) (fun u => ?_) ?_; rotate_left; (go_simp; try with_reducible rfl); simp only [Act.put, List.setIfInBounds_toArray, List.set_cons_zero, List.set_cons_succ]
      refine Lex2.run_free (v := ?_) (by rfl) (by rfl) (fun u => ?_) ?_; rotate_left; (go_simp; try with_reducible rfl); simp only [Act.put, List.setIfInBounds_toArray, List.set_cons_zero, List.set_cons_succ]
      refine Lex2.run_load (v := ?_) (by rfl) (by rfl) (fun u hu => ?_) ?_; rotate_left; (have hu0 := hu _ _ d2; have hu1 := hu _ _ b1c; have hu2 := hu _ _ gqk; have hu3 := hu _ _ bq2; have hu4 := hu _ _ gqj; have hu5 := hu _ _ tc7; go_simp; try with_reducible rfl); simp only [Act.put, List.setIfInBounds_toArray, List.set_cons_zero, List.set_cons_succ]
      refine Lex2.run_free (v := ?_) (by rfl) (by rfl) (fun u => ?_) ?_; rotate_left; (go_simp; try with_reducible rfl); simp only [Act.put, List.setIfInBounds_toArray, List.set_cons_zero, List.set_cons_succ]
      refine Lex2.run_free (v := ?_) (by rfl) (by rfl) (fun u => ?_) ?_; rotate_left; (go_simp; try with_reducible rfl); simp only [Act.put, List.setIfInBounds_toArray, List.set_cons_zero, List.set_cons_succ]
      refine Lex2.run_load (v := ?_) (by rfl) (by rfl) (fun u hu => ?_) ?_; rotate_left; (have hu0 := hu _ _ d2; have hu1 := hu _ _ b1c; have hu2 := hu _ _ gqk; have hu3 := hu _ _ bq2; have hu4 := hu _ _ gqj; have hu5 := hu _ _ tc7; go_simp; try with_reducible rfl); simp only [Act.put, List.setIfInBounds_toArray, List.set_cons_zero, List.set_cons_succ]
      refine Lex2.run_free (v := ?_) (by rfl) (by rfl) (fun u => ?_) ?_; rotate_left; (go_simp; try with_reducible rfl); simp only [Act.put, List.setIfInBounds_toArray, List.set_cons_zero, List.set_cons_succ]
      refine Lex2.run_free (v := ?_) (by rfl) (by rfl) (fun u => ?_) ?_; rotate_left; (go_simp; try with_reducible rfl); simp only [Act.put, List.setIfInBounds_toArray, List.set_cons_zero, List.set_cons_succ]
      refine Lex2.run_load (v := ?_) (by rfl) (by rfl) (fun u hu => ?_) ?_; rotate_left; (have hu0 := hu _ _ d2; have hu1 := hu _ _ b1c; have hu2 := hu _ _ gqk; have hu3 := hu _ _ bq2; have hu4 := hu _ _ gqj; have hu5 := hu _ _ tc7; go_simp; try with_reducible rfl); simp only [Act.put, List.setIfInBounds_toArray, List.set_cons_zero, List.set_cons_succ]
      refine Lex2.run_free (v := ?_) (by rfl) (by rfl) (fun u => ?_) ?_; rotate_left; (go_simp; try with_reducible rfl); simp only [Act.put, List.setIfInBounds_toArray, List.set_cons_zero, List.set_cons_succ]
      refine Lex2.run_free (v := ?_) (by rfl) (by rfl) (fun u => ?_) ?_; rotate_left; (go_simp; try with_reducible rfl); simp only [Act.put, List.setIfInBounds_toArray, List.set_cons_zero, List.set_cons_succ]
      refine Lex2.run_load (v := ?_) (by rfl) (by rfl) (fun u hu => ?_) ?_; rotate_left; (have hu0 := hu _ _ d2; have hu1 := hu _ _ b1c; have hu2 := hu _ _ gqk; have hu3 := hu _ _ bq2; have hu4 := hu _ _ gqj; have hu5 := hu _ _ tc7; go_simp; try with_reducible rfl); simp only [Act.put, List.setIfInBounds_toArray, List.set_cons_zero, List.set_cons_succ]
      refine Lex2.run_free (v := ?_) (by rfl) (by rfl) (fun u => ?_) ?_; rotate_left; (go_simp; try with_reducible rfl); simp only [Act.put, List.setIfInBounds_toArray, List.set_cons_zero, List.set_cons_succ]
      refine Lex2.run_eff (by decide) (by rfl) (fun n' K' hK => ?_)
      go_simp
      refine hK _ _ ?_
      clear hK K'
      refine Lex2.run_eff (by decide) (by rfl) (fun n'' K' hK => ?_)
      refine wp_append_lies _ (.tmp 60) (.tmp 78) 50 rfl w3.heap.size 3 i0 (.int .i64 0) 1 8 Try.underlying50 hi hz0 hz1 hz2 rfl (by decide) sv j _ (by rfl) (show World.ownsRow _ _ _ _ _ _ _ from p2'.alloc (.cells #[(.int .i64 (tri v z))] 3)) ⟨wr.heap.size, 0, none⟩ 1 1 [(.int .i64 (tri v z))] (by rfl) rfl (show ∀ i u, _ → World.cell? _ _ = _ from cell_one_new wr _ _) (by intro u hu; simp at hu; subst hu; rfl) (by decide) (by unfold maxLen; omega) (by omega) (show w3.heap.size ≤ (wr.alloc (.cells #[(.int .i64 (tri v z))] 3)).heap.size by simp; have := p3'.size; omega) (wr.heap.size + 1) (show (wr.alloc (.cells #[(.int .i64 (tri v z))] 3)).heap.size = _ by simp) ?_
      intro gg cap wn hown1 hgrow hat hlt1
      refine hK _ _ ?_
      clear hK K'
      have hgrow' : (wr.alloc (.cells #[(.int .i64 (tri v z))] 3)).grownBy wn sv.ownBlock := ⟨hgrow.os, hgrow.tape, hgrow.output, hgrow.size, hgrow.block⟩
      have b1 := (p1'.alloc (.cells #[(.int .i64 (tri v z))] 3)).grown hgrow' (fun h => p4' h.symm)
      have r2 : wn.cell? ⟨w3.heap.size, 2, none⟩ = some sv := by rw [b1.cell]; rfl
      have r3 : wn.frozen? ⟨w3.heap.size, 2, none⟩ = false := b1.frozen 2
      simp only [Act.put, List.setIfInBounds_toArray, List.set_cons_zero, List.set_cons_succ]
      refine Lex2.run_free (v := ?_) (by rfl) (by rfl) (fun u => ?_) ?_; rotate_left; (go_simp; try with_reducible rfl); simp only [Act.put, List.setIfInBounds_toArray, List.set_cons_zero, List.set_cons_succ]
      refine Lex2.run_free (v := ?_) (by rfl) (by rfl) (fun u => ?_) ?_; rotate_left; (go_simp; try with_reducible rfl); simp only [Act.put, List.setIfInBounds_toArray, List.set_cons_zero, List.set_cons_succ]
      refine Lex2.run_eff (by decide) (by rfl) (fun n3 K' hK => ?_)
      go_simp
      refine hK _ _ ?_
      clear hK K'
      try simp only [Act.put, List.setIfInBounds_toArray, List.set_cons_zero, List.set_cons_succ]
      refine Lex2.run_nil (fun n4 => ?_)
      have hst : CutJ w3 (wn.setCell ⟨w3.heap.size, 2, none⟩ (.slice (some ⟨gg, 0, none⟩) (j + 1) cap)) W H w3.heap.size (j + 1) (((zs.take (j + 1)).map (tri v)).map (.int .i64)) :=
        CutJ.step p1' p2' p3' p4' (Nat.le_refl _) (by rw [HNX.out]; exact hown1) hgrow' hat
      obtain ⟨s9, l1, l2, l3, l4, l5⟩ := hst
      go_wp2_with fail
      go_roundw
      case rel => exact ⟨j + 1, by omega, by go_num, s9, l1, l2, ⟨l3.os, l3.tape, l3.output, l3.size, l3.block⟩, l4, l5⟩
      case measure => simp [intOf]; omega
    · have hjn : j = N := by omega
      clear hj hlt
      subst hjn
      rw [List.take_of_length_le (by omega)] at p2'
      obtain ⟨g9, c9, rfl, hg9, _⟩ := p2'.form hN1
      obtain ⟨curg, hgb, hgs, hgt, hgn, hgc, hgm⟩ := row_of_owns p2'
      have fit : fitsB W H = true := by
        rw [fitsB_iff, ← Int.natCast_mul, HN.out]
        omega
      have hq9 : RA wr w3.heap.size g9 W H c9 (zs.map (tri v)) := by
        have := plane_mk (W := W) (H := H) (c := c9) (by rw [HN.out]; exact p1') hgb hgs (fun h => p4' (by simp [Value.ownBlock, h])) fit (by rw [HN.out]; exact hgc) hgm
        rw [HN.out, hgt] at this
        exact this
      have hl1 := hp3.blt
      have hl2 := hp3.glt
      obtain ⟨r9, h9, f9⟩ := h0.add (e := ⟨p1, g1, c1, w3.heap.size, g9, c9, W, H, zs.map (tri v), zs.map (tri v)⟩) (w' := wr) (by rw [HS.out]; exact bwr) ⟨hp3.below p3', hq9⟩ (by dsimp only; rw [HS.out]; omega) (by dsimp only; rw [HS.out]; omega) (by dsimp only; rw [HS.out]; omega) (by dsimp only; rw [HS.out]; omega) (by dsimp only; omega) (by dsimp only; omega)
      have ha9 := qa.kept p3'
      have ho9 : wr.ownsRow S 3 1 va j (zs.map (.int .i64)) := qo.kept (grown_of_below p3' none) (by cases va.ownBlock <;> simp)
      have ca : wr.cell? ⟨S + 1, 0, none⟩ = some va := by rw [ha9.cell]; rfl
      obtain ⟨ga, cpa, rfl, hga, _⟩ := ho9.form hN1
      obtain ⟨cura, hab, has_, hat_, han, hac, ham⟩ := row_of_owns ho9
      have sla : Sl wr (some ⟨ga, 0, none⟩) j (zs.map (.int .i64)) := Sl.of_blk hab hat_ (by omega)
      have hU := HU.out.1 _ bwr
      have slq : Sl wr (some ⟨gq, 0, none⟩) j (zs.map (.int .i64)) := by
        obtain ⟨cur, k1, k2, k3⟩ := (hU.ent k _ hk).1.2.row
        have k4 := (hU.ent k _ hk).1.2.cap
        dsimp only at k1 k2 k3 k4
        rw [HN.out] at k3 k4
        exact Sl.of_blk k1 k3 (by omega)
      have hM : ∀ N, Book base ((wr.drewN N).setCell ⟨B, 2, none⟩ (.bool true)) B r1 _ _ (es.map pP) (es.map pQ) es := fun N => (hU.drewN N).mark
      have hA : ∀ N, Blk ((wr.drewN N).setCell ⟨B, 2, none⟩ (.bool true)) (S + 1) 50 #[_] := fun N => (ha9.drewN N).far (p := ⟨B, 2, none⟩) (by show S + 1 ≠ B; omega) _
      have hM1 : ∀ N, ((wr.drewN N).setCell ⟨B, 2, none⟩ (.bool true)).cell? ⟨B, 1, none⟩ = some (.slice (some ⟨gQ, 0, none⟩) n cQ) := fun N => (hM N).p1
      have hM2 : ∀ N, ((wr.drewN N).setCell ⟨B, 2, none⟩ (.bool true)).cell? ⟨gQ, k, none⟩ = some (.pointer (some ⟨bq, 0, none⟩)) := fun N => (hM N).cellQ hn hk
      have hM3 : ∀ N, ((wr.drewN N).setCell ⟨B, 2, none⟩ (.bool true)).cell? ⟨bq, 2, none⟩ = some (.slice (some ⟨gq, 0, none⟩) j cq) := fun N => by rw [← HN.out]; exact ((hM N).ent k _ hk).1.2.c2
      have hM4 : ∀ N, ((wr.drewN N).setCell ⟨B, 2, none⟩ (.bool true)).cell? ⟨S + 1, 0, none⟩ = some (.slice (some ⟨ga, 0, none⟩) j cpa) := fun N => by rw [(hA N).cell]; rfl
      have HM := Lib.hid (And.intro hM1 (And.intro hM2 (And.intro hM3 hM4)))
      have c2 : ∀ N, (wr.drewN N).cell? ⟨B, 2, none⟩ = some (.bool true) := fun N => h9.p2
      have fz2 : ∀ N, (wr.drewN N).frozen? ⟨B, 2, none⟩ = false := fun N => h9.frozen 2
      clear hM hA hM1 hM2 hM3 hM4 hU
      go_upto_region 8 with fail
      refine Lex3.wp_region_lex [] (fun u => u.cell? ⟨S + 1, 0, none⟩ = some (.slice (some ⟨ga, 0, none⟩) j cpa) ∧ u.cell? ⟨B, 1, none⟩ = some (.slice (some ⟨gQ, 0, none⟩) n cQ) ∧ u.cell? ⟨gQ, k, none⟩ = some (.pointer (some ⟨bq, 0, none⟩)) ∧ u.cell? ⟨bq, 2, none⟩ = some (.slice (some ⟨gq, 0, none⟩) j cq)) (fun u n h => h) ⟨ca, b1c, gqk, bq2⟩ (by kernel_rfl) (by kernel_rfl) ?_
      refine Lex3.run_free (v := ?_) (by rfl) (by rfl) (fun u => ?_) ?_; rotate_left; (go_simp; try with_reducible rfl); simp only [Act.put, List.setIfInBounds_toArray, List.set_cons_zero, List.set_cons_succ]
      refine Lex3.run_load (v := ?_) (by rfl) (by rfl) (fun u hu => ?_) ?_; rotate_left; (obtain ⟨hu0, hu1, hu2, hu3⟩ := hu; go_simp; try with_reducible rfl); simp only [Act.put, List.setIfInBounds_toArray, List.set_cons_zero, List.set_cons_succ]
      refine Lex3.run_free (v := ?_) (by rfl) (by rfl) (fun u => ?_) ?_; rotate_left; (go_simp; try with_reducible rfl); simp only [Act.put, List.setIfInBounds_toArray, List.set_cons_zero, List.set_cons_succ]
      refine Lex3.run_free (v := ?_) (by rfl) (by rfl) (fun u => ?_) ?_; rotate_left; (go_simp; try with_reducible rfl); simp only [Act.put, List.setIfInBounds_toArray, List.set_cons_zero, List.set_cons_succ]
      refine Lex3.run_free (v := ?_) (by rfl) (by rfl) (fun u => ?_) ?_; rotate_left; (go_simp; try with_reducible rfl); simp only [Act.put, List.setIfInBounds_toArray, List.set_cons_zero, List.set_cons_succ]
      refine Lex3.run_load (v := ?_) (by rfl) (by rfl) (fun u hu => ?_) ?_; rotate_left; (obtain ⟨hu0, hu1, hu2, hu3⟩ := hu; go_simp; try with_reducible rfl); simp only [Act.put, List.setIfInBounds_toArray, List.set_cons_zero, List.set_cons_succ]
      refine Lex3.run_free (v := ?_) (by rfl) (by rfl) (fun u => ?_) ?_; rotate_left; (go_simp; try with_reducible rfl); simp only [Act.put, List.setIfInBounds_toArray, List.set_cons_zero, List.set_cons_succ]
      refine Lex3.run_free (v := ?_) (by rfl) (by rfl) (fun u => ?_) ?_; rotate_left; (go_simp; try with_reducible rfl); simp only [Act.put, List.setIfInBounds_toArray, List.set_cons_zero, List.set_cons_succ]
      refine Lex3.run_load (v := ?_) (by rfl) (by rfl) (fun u hu => ?_) ?_; rotate_left; (obtain ⟨hu0, hu1, hu2, hu3⟩ := hu; go_simp; try with_reducible rfl); simp only [Act.put, List.setIfInBounds_toArray, List.set_cons_zero, List.set_cons_succ]
      refine Lex3.run_free (v := ?_) (by rfl) (by rfl) (fun u => ?_) ?_; rotate_left; (go_simp; try with_reducible rfl); simp only [Act.put, List.setIfInBounds_toArray, List.set_cons_zero, List.set_cons_succ]
      refine Lex3.run_free (v := ?_) (by rfl) (by rfl) (fun u => ?_) ?_; rotate_left; (go_simp; try with_reducible rfl); simp only [Act.put, List.setIfInBounds_toArray, List.set_cons_zero, List.set_cons_succ]
      refine Lex3.run_load (v := ?_) (by rfl) (by rfl) (fun u hu => ?_) ?_; rotate_left; (obtain ⟨hu0, hu1, hu2, hu3⟩ := hu; go_simp; try with_reducible rfl); simp only [Act.put, List.setIfInBounds_toArray, List.set_cons_zero, List.set_cons_succ]
      refine Lex3.run_eff (by rfl) (by rfl) (fun n' K' hK => ?_)
      go_simp
      refine (same12_any _ _ j j _ _ zs zs _ (sla.drewN (1 + n')) (slq.drewN (1 + n')) (by omega) (by omega)).mono ?_
      rintro e w' ⟨rfl, k3, rfl⟩
      rw [eqLI]
      refine hK _ _ ⟨ca, b1c, gqk, bq2⟩ ?_
      clear hK K'
      try simp only [Act.put, List.setIfInBounds_toArray, List.set_cons_zero, List.set_cons_succ]
      refine Lex3.run_free (v := ?_) (by rfl) (by rfl) (fun u => ?_) ?_; rotate_left; (go_simp; try with_reducible rfl); simp only [Act.put, List.setIfInBounds_toArray, List.set_cons_zero, List.set_cons_succ]
      refine Lex3.run_free (v := ?_) (by rfl) (by kernel_rfl) (fun u => ?_) ?_; rotate_left; (go_simp; try with_reducible rfl); simp only [Act.put, List.setIfInBounds_toArray, List.set_cons_zero, List.set_cons_succ]
      refine Lex3.run_free (v := ?_) (by rfl) (by kernel_rfl) (fun u => ?_) ?_; rotate_left; (go_simp; try with_reducible rfl); simp only [Act.put, List.setIfInBounds_toArray, List.set_cons_zero, List.set_cons_succ]
      refine Lex3.run_free (v := ?_) (by rfl) (by rfl) (fun u => ?_) ?_; rotate_left; (go_simp; try with_reducible rfl); simp only [Act.put, List.setIfInBounds_toArray, List.set_cons_zero, List.set_cons_succ]
      refine Lex3.run_free (v := ?_) (by rfl) (by rfl) (fun u => ?_) ?_; rotate_left; (go_simp; try with_reducible rfl); simp only [Act.put, List.setIfInBounds_toArray, List.set_cons_zero, List.set_cons_succ]
      refine Lex3.run_free (v := ?_) (by rfl) (by rfl) (fun u => ?_) ?_; rotate_left; (go_simp; try with_reducible rfl); simp only [Act.put, List.setIfInBounds_toArray, List.set_cons_zero, List.set_cons_succ]
      refine Lex3.run_eff (by rfl) (by rfl) (fun n9 K' hK => ?_)
      have c2' := c2 (1 + n' + k3 + n9)
      have fz2' := fz2 (1 + n' + k3 + n9)
      go_simp
      refine hK _ _ ⟨HM.out.2.2.2 _, HM.out.1 _, HM.out.2.1 _, HM.out.2.2.1 _⟩ ?_
      clear hK K'
      try simp only [Act.put, List.setIfInBounds_toArray, List.set_cons_zero, List.set_cons_succ]

      refine Lex3.run_nil (fun n3 => ?_)
      have hw2 := (h9.drewN (1 + n' + k3 + n9)).mark.drewN n3
      have hb2 := below_drewN (h9.drewN (1 + n' + k3 + n9) |>.markB (below_drewN (bwr.mono bS) (1 + n' + k3 + n9))) n3
      clear c2 fz2 c2' fz2' ca b1c gqk bq2 HM h9 bwr sla slq
      generalize ((wr.drewN (1 + n' + k3 + n9)).setCell ⟨B, 2, none⟩ (.bool true)).drewN n3 = w2 at hw2 hb2 ⊢
      have c2 := hw2.p2
      have c0 := hw2.p0
      have hrow := hw2.rowp
      rw [show (es.map pP).length = n by simp [hn]] at hrow
      go_upto_region 11 with (at_builtin; refine wpList_append_lies _ rfl (.tmp 109) (.tmp 111) 113 rfl base 51 j0 (.pointer none) 1 8 Try.underlying113 i0h i0z i0s i0b rfl (by decide) (.slice (some ⟨gP, 0, none⟩) n cP) n _ rfl (show World.ownsRow _ _ _ _ _ _ _ from hrow.alloc (.cells #[.pointer (some ⟨p1, 0, none⟩)] 51)) ⟨w2.heap.size, 0, none⟩ 1 1 [.pointer (some ⟨p1, 0, none⟩)] rfl rfl (show ∀ i u, _ → World.cell? _ _ = _ from cell_one_new w2 _ _) (by intro u hu; simp at hu; subst hu; rfl) (by decide) (by unfold maxLen; omega) (by omega) (show base ≤ (w2.alloc (.cells #[.pointer (some ⟨p1, 0, none⟩)] 51)).heap.size by simp; have := hw2.le; omega) (w2.heap.size + 1) (show (w2.alloc (.cells #[.pointer (some ⟨p1, 0, none⟩)] 51)).heap.size = _ by simp) ?_; intro gg cap w1 hown hgrow hat hlt1; have b1 := (hw2.bk.alloc (.cells #[.pointer (some ⟨p1, 0, none⟩)] 51)).grown hgrow (fun e => hw2.offB.1 e.symm); have r2 : w1.cell? ⟨B, 0, none⟩ = some (.slice (some ⟨gP, 0, none⟩) n cP) := (by rw [b1.cell]; rfl); have r3 : w1.frozen? ⟨B, 0, none⟩ = false := b1.frozen 0)
      obtain ⟨hw3, hb3, hf3⟩ := hw2.pushP (v := .pointer (some ⟨p1, 0, none⟩)) (by simp [hn]) hown hgrow hat
      have hb3' := hb2.trans hb3
      generalize (w1.setCell ⟨B, 0, none⟩ (.slice (some ⟨gg, 0, none⟩) (n + 1) cap)) = w4 at hw3 hb3' ⊢
      clear c2 c0 hrow r2 r3 b1 hown hgrow hat hlt1 hb3 hf3
      clear w1
      generalize (fun x => if x = gg then 1 else r9 x) = r10 at hw3
      generalize (Value.slice (some ⟨gg, 0, none⟩) (n + 1) cap) = vp1 at hw3 ⊢
      have hw4 := hw3
      have c1' := hw3.p1
      have hrow := hw3.rowq
      rw [show (es.map pQ).length = n by simp [hn]] at hrow
      go_wp2_with (at_builtin; refine wpList_append_lies _ rfl (.tmp 119) (.tmp 121) 114 rfl base 123 j1 (.pointer none) 1 8 Try.underlying114 i1h i1z i1s i1b rfl (by decide) (.slice (some ⟨gQ, 0, none⟩) n cQ) n _ rfl (show World.ownsRow _ _ _ _ _ _ _ from hrow.alloc (.cells #[.pointer (some ⟨w3.heap.size, 0, none⟩)] 123)) ⟨w4.heap.size, 0, none⟩ 1 1 [.pointer (some ⟨w3.heap.size, 0, none⟩)] rfl rfl (show ∀ i u, _ → World.cell? _ _ = _ from cell_one_new w4 _ _) (by intro u hu; simp at hu; subst hu; rfl) (by decide) (by unfold maxLen; omega) (by omega) (show base ≤ (w4.alloc (.cells #[.pointer (some ⟨w3.heap.size, 0, none⟩)] 123)).heap.size by simp; have := hw4.le; omega) (w4.heap.size + 1) (show (w4.alloc (.cells #[.pointer (some ⟨w3.heap.size, 0, none⟩)] 123)).heap.size = _ by simp) ?_; intro gg cap w1 hown hgrow hat hlt1; have b1 := (hw4.bk.alloc (.cells #[.pointer (some ⟨w3.heap.size, 0, none⟩)] 123)).grown hgrow (fun e => hw4.offB.2 e.symm); have r2 : w1.cell? ⟨B, 1, none⟩ = some (.slice (some ⟨gQ, 0, none⟩) n cQ) := (by rw [b1.cell]; rfl); have r3 : w1.frozen? ⟨B, 1, none⟩ = false := b1.frozen 1)
      obtain ⟨hw5, hb5, hf5⟩ := hw4.pushQ (v := .pointer (some ⟨w3.heap.size, 0, none⟩)) (by simp [hn]) hown hgrow hat
      go_end0
      exact Goes.more (e := ⟨p1, g1, c1, w3.heap.size, g9, c9, W, H, zs.map (tri v), zs.map (tri v)⟩) (hb3'.trans hb5) hw5 hz (by rfl) hn
end Go.Proofs.Ytlbocfinjlkebaa.Scr
