/- PlaneScript: one. -/
import Derived.Test.YtlbocfinjlkebaaSch
import Derived.Test.YtlbocfinjlkebaaScj
import Derived.Test.YtlbocfinjlkebaaSce
import Derived.Test.YtlbocfinjlkebaaSck
import Derived.Test.YtlbocfinjlkebaaLex3
namespace Go.Proofs.Ytlbocfinjlkebaa.Scr
open Go.RowKit Go.Proofs.Ytlbocfinjlkebaa.Byt Go.Proofs.Ytlbocfinjlkebaa.R12

theorem mapP_set {es : List Ent} {k : Nat} {e : Ent} {z1 z2 : List Int} (he : es[k]? = some e) : (es.set k { e with zp := z1, zq := z2 }).map pP = es.map pP := by
  apply List.ext_getElem?
  intro i
  rw [List.getElem?_map, List.getElem?_map, List.getElem?_set]
  by_cases h : k = i
  · subst h
    obtain ⟨q1, q2⟩ := List.getElem?_eq_some_iff.1 he
    rw [if_pos rfl, if_pos q1, he]
    rfl
  · simp [h]
theorem mapQ_set {es : List Ent} {k : Nat} {e : Ent} {z1 z2 : List Int} (he : es[k]? = some e) : (es.set k { e with zp := z1, zq := z2 }).map pQ = es.map pQ := by
  apply List.ext_getElem?
  intro i
  rw [List.getElem?_map, List.getElem?_map, List.getElem?_set]
  by_cases h : k = i
  · subst h
    obtain ⟨q1, q2⟩ := List.getElem?_eq_some_iff.1 he
    rw [if_pos rfl, if_pos q1, he]
    rfl
  · simp [h]
theorem same_set {es : List Ent} {k : Nat} {e : Ent} (hz : ∀ e ∈ es, e.zp = e.zq) (he : e.zp = e.zq) : ∀ x ∈ es.set k e, x.zp = x.zq := by
  intro x hx
  rcases List.mem_or_eq_of_mem_set hx with h | rfl
  · exact hz x h
  · exact he

set_option maxRecDepth 100000 in
set_option maxHeartbeats 16000000 in
theorem one_new (base B n : Nat) (r : Nat → Nat) (vp vq : Value) (es : List Ent) (I J a b c d v : Int) (A : Option Addr) (m mc : Nat) (w : World) (h : Book base w B r vp vq (es.map pP) (es.map pQ) es) (hz : ∀ e ∈ es, e.zp = e.zq) (hn : es.length = n) (hm : n ≤ 8388608) :
    Calls Try.prog 74 #[.pointer (some ⟨B, 0, none⟩), .agg #[.int .i64 1, .int .i64 I, .int .i64 J, .int .i64 a, .int .i64 b, .int .i64 c, .int .i64 d, .int .i64 v, .slice A m mc]] w (Goes base B n w) := by
  obtain ⟨r1, h1, f1, hrt, t1, b1⟩ := h.box #[.int .i64 1, .int .i64 I, .int .i64 J, .int .i64 a, .int .i64 b, .int .i64 c, .int .i64 d, .int .i64 v, .slice A m mc] 119
  go_enter Try.func74, Try.ntmps74
  go_upto_region 1 with fail
  generalize (w.alloc (.cells #[.int .i64 1, .int .i64 I, .int .i64 J, .int .i64 a, .int .i64 b, .int .i64 c, .int .i64 d, .int .i64 v, .slice A m mc] 119)) = w1 at h1 f1 t1 b1 ⊢
  generalize w.heap.size = t at hrt t1 ⊢
  have o0 : w1.cell? ⟨t, 0, none⟩ = some (.int .i64 1) := by rw [t1.cell]; rfl
  have o1 : w1.cell? ⟨t, 1, none⟩ = some (.int .i64 I) := by rw [t1.cell]; rfl
  have o2 : w1.cell? ⟨t, 2, none⟩ = some (.int .i64 J) := by rw [t1.cell]; rfl
  have o3 : w1.cell? ⟨t, 3, none⟩ = some (.int .i64 a) := by rw [t1.cell]; rfl
  have o4 : w1.cell? ⟨t, 4, none⟩ = some (.int .i64 b) := by rw [t1.cell]; rfl
  have o5 : w1.cell? ⟨t, 5, none⟩ = some (.int .i64 c) := by rw [t1.cell]; rfl
  have o6 : w1.cell? ⟨t, 6, none⟩ = some (.int .i64 d) := by rw [t1.cell]; rfl
  have o7 : w1.cell? ⟨t, 7, none⟩ = some (.int .i64 v) := by rw [t1.cell]; rfl
  have o8 : w1.cell? ⟨t, 8, none⟩ = some (.slice A m mc) := by rw [t1.cell]; rfl
  go_wp2_with fail
  refine (make_new base B n r1 vp vq es I J a b c d v A m mc w1 h1 hz hn hm).mono ?_
  rintro e w2 ⟨rfl, b2, hf⟩
  go_wp2_with fail
  refine bodyPost_ret (results_none rfl _ _ _) rfl ?_
  exact ⟨rfl, b1.trans b2, hf⟩
set_option maxRecDepth 100000 in
set_option maxHeartbeats 16000000 in
theorem one_of (base B n : Nat) (r : Nat → Nat) (vp vq : Value) (es : List Ent) (I J a b c d v : Int) (A : Option Addr) (m mc : Nat) (zs : List Int) (w : World) (h : Book base w B r vp vq (es.map pP) (es.map pQ) es) (hz : ∀ e ∈ es, e.zp = e.zq) (hn : es.length = n) (hm : n ≤ 8388608) (hpix : ∀ u, Below base w u → Sl u A m (zs.map (.int .i64))) (hmc : m ≤ mc) (hm1 : m ≤ 1048576) :
    Calls Try.prog 74 #[.pointer (some ⟨B, 0, none⟩), .agg #[.int .i64 2, .int .i64 I, .int .i64 J, .int .i64 a, .int .i64 b, .int .i64 c, .int .i64 d, .int .i64 v, .slice A m mc]] w (Goes base B n w) := by
  obtain ⟨r1, h1, f1, hrt, t1, b1⟩ := h.box #[.int .i64 2, .int .i64 I, .int .i64 J, .int .i64 a, .int .i64 b, .int .i64 c, .int .i64 d, .int .i64 v, .slice A m mc] 119
  go_enter Try.func74, Try.ntmps74
  go_upto_region 1 with fail
  generalize (w.alloc (.cells #[.int .i64 2, .int .i64 I, .int .i64 J, .int .i64 a, .int .i64 b, .int .i64 c, .int .i64 d, .int .i64 v, .slice A m mc] 119)) = w1 at h1 f1 t1 b1 ⊢
  generalize w.heap.size = t at hrt t1 ⊢
  have o0 : w1.cell? ⟨t, 0, none⟩ = some (.int .i64 2) := by rw [t1.cell]; rfl
  have o1 : w1.cell? ⟨t, 1, none⟩ = some (.int .i64 I) := by rw [t1.cell]; rfl
  have o2 : w1.cell? ⟨t, 2, none⟩ = some (.int .i64 J) := by rw [t1.cell]; rfl
  have o3 : w1.cell? ⟨t, 3, none⟩ = some (.int .i64 a) := by rw [t1.cell]; rfl
  have o4 : w1.cell? ⟨t, 4, none⟩ = some (.int .i64 b) := by rw [t1.cell]; rfl
  have o5 : w1.cell? ⟨t, 5, none⟩ = some (.int .i64 c) := by rw [t1.cell]; rfl
  have o6 : w1.cell? ⟨t, 6, none⟩ = some (.int .i64 d) := by rw [t1.cell]; rfl
  have o7 : w1.cell? ⟨t, 7, none⟩ = some (.int .i64 v) := by rw [t1.cell]; rfl
  have o8 : w1.cell? ⟨t, 8, none⟩ = some (.slice A m mc) := by rw [t1.cell]; rfl
  go_wp2_with fail
  refine (make_of base B n r1 vp vq es I J a b c d v A m mc zs w1 h1 hz hn hm (fun u hu => hpix u (b1.trans hu)) hmc hm1).mono ?_
  rintro e w2 ⟨rfl, b2, hf⟩
  go_wp2_with fail
  refine bodyPost_ret (results_none rfl _ _ _) rfl ?_
  exact ⟨rfl, b1.trans b2, hf⟩
set_option maxRecDepth 100000 in
set_option maxHeartbeats 16000000 in
theorem one_zero (base B n : Nat) (r : Nat → Nat) (vp vq : Value) (es : List Ent) (K I J a b c d v : Int) (A : Option Addr) (m mc : Nat) (w : World) (h : Book base w B r vp vq (es.map pP) (es.map pQ) es) (hz : ∀ e ∈ es, e.zp = e.zq) (hn : es.length = n) (hm : n ≤ 8388608) (h0 : n = 0) (K1 : ¬ K = 1) (K2 : ¬ K = 2) :
    Calls Try.prog 74 #[.pointer (some ⟨B, 0, none⟩), .agg #[.int .i64 K, .int .i64 I, .int .i64 J, .int .i64 a, .int .i64 b, .int .i64 c, .int .i64 d, .int .i64 v, .slice A m mc]] w (Goes base B n w) := by
  obtain ⟨Ap, cap, rfl⟩ := h.lenP hn
  subst h0
  obtain ⟨r1, h1, f1, hrt, t1, b1⟩ := h.box #[.int .i64 K, .int .i64 I, .int .i64 J, .int .i64 a, .int .i64 b, .int .i64 c, .int .i64 d, .int .i64 v, .slice A m mc] 119
  go_enter Try.func74, Try.ntmps74
  go_upto_region 1 with fail
  generalize (w.alloc (.cells #[.int .i64 K, .int .i64 I, .int .i64 J, .int .i64 a, .int .i64 b, .int .i64 c, .int .i64 d, .int .i64 v, .slice A m mc] 119)) = w1 at h1 f1 t1 b1 ⊢
  generalize w.heap.size = t at hrt t1 ⊢
  have o0 : w1.cell? ⟨t, 0, none⟩ = some (.int .i64 K) := by rw [t1.cell]; rfl
  have c0 := h1.p0
  have kb1 : (K == 1) = false := by simpa using K1
  have kb2 : (K == 2) = false := by simpa using K2
  go_wp2_with fail
  first | refine bodyPost_end (results_none rfl _ _ _) rfl ?_ | refine bodyPost_ret (results_none rfl _ _ _) rfl ?_
  exact Goes.same b1 h1 hz hn

set_option maxRecDepth 100000 in
set_option maxHeartbeats 16000000 in
theorem one_set (base B n : Nat) (r : Nat → Nat) (vp vq : Value) (es : List Ent) (I J a b c d v : Int) (A : Option Addr) (m mc : Nat) (w : World) (h : Book base w B r vp vq (es.map pP) (es.map pQ) es) (hz : ∀ e ∈ es, e.zp = e.zq) (hn : es.length = n) (hm : n ≤ 8388608) (h1n : 1 ≤ n) :
    Calls Try.prog 74 #[.pointer (some ⟨B, 0, none⟩), .agg #[.int .i64 3, .int .i64 I, .int .i64 J, .int .i64 a, .int .i64 b, .int .i64 c, .int .i64 d, .int .i64 v, .slice A m mc]] w (Goes base B n w) := by
  have hsee : ∃ gP cP gQ cQ, vp = .slice (some ⟨gP, 0, none⟩) n cP ∧ vq = .slice (some ⟨gQ, 0, none⟩) n cQ := by
    obtain ⟨e, he⟩ : ∃ e, es[0]? = some e := ⟨_, List.getElem?_eq_getElem (by omega)⟩
    obtain ⟨gP, cP, gQ, cQ, q1, q2, _⟩ := h.see n hn he
    exact ⟨gP, cP, gQ, cQ, q1, q2⟩
  obtain ⟨gP, cP, gQ, cQ, rfl, rfl⟩ := hsee
  obtain ⟨r1, h1, f1, hrt, t1, b1⟩ := h.box #[.int .i64 3, .int .i64 I, .int .i64 J, .int .i64 a, .int .i64 b, .int .i64 c, .int .i64 d, .int .i64 v, .slice A m mc] 119
  go_enter Try.func74, Try.ntmps74
  go_upto_region 1 with fail
  generalize (w.alloc (.cells #[.int .i64 3, .int .i64 I, .int .i64 J, .int .i64 a, .int .i64 b, .int .i64 c, .int .i64 d, .int .i64 v, .slice A m mc] 119)) = w1 at h1 f1 t1 b1 ⊢
  generalize w.heap.size = t at hrt t1 ⊢
  have o0 : w1.cell? ⟨t, 0, none⟩ = some (.int .i64 3) := by rw [t1.cell]; rfl
  have o1 : w1.cell? ⟨t, 1, none⟩ = some (.int .i64 I) := by rw [t1.cell]; rfl
  have o2 : w1.cell? ⟨t, 2, none⟩ = some (.int .i64 J) := by rw [t1.cell]; rfl
  have o3 : w1.cell? ⟨t, 3, none⟩ = some (.int .i64 a) := by rw [t1.cell]; rfl
  have o4 : w1.cell? ⟨t, 4, none⟩ = some (.int .i64 b) := by rw [t1.cell]; rfl
  have o7 : w1.cell? ⟨t, 7, none⟩ = some (.int .i64 v) := by rw [t1.cell]; rfl
  have c0 := h1.p0
  have hkn : ((n : Int) == 0) = false := by simp; omega
  go_upto_region 4 with fail
  refine Lex3.wp_region_lex [] (fun u => u.cell? ⟨B, 0, none⟩ = some (.slice (some ⟨gP, 0, none⟩) n cP) ∧ u.cell? ⟨t, 1, none⟩ = some (.int .i64 I)) (fun u n h => h) ⟨c0, o1⟩ (by kernel_rfl) (by kernel_rfl) ?_
  refine Lex3.run_free (v := ?_) (by rfl) (by rfl) (fun u => ?_) ?_; rotate_left; (go_simp; try with_reducible rfl); simp only [Act.put, List.setIfInBounds_toArray, List.set_cons_zero, List.set_cons_succ]
  refine Lex3.run_load (v := ?_) (by rfl) (by rfl) (fun u hu => ?_) ?_; rotate_left; (obtain ⟨hu0, hu1⟩ := hu; go_simp; try with_reducible rfl); simp only [Act.put, List.setIfInBounds_toArray, List.set_cons_zero, List.set_cons_succ]
  refine Lex3.run_free (v := ?_) (by rfl) (by rfl) (fun u => ?_) ?_; rotate_left; (go_simp; try with_reducible rfl); simp only [Act.put, List.setIfInBounds_toArray, List.set_cons_zero, List.set_cons_succ]
  refine Lex3.run_free (v := ?_) (by rfl) (by rfl) (fun u => ?_) ?_; rotate_left; (go_simp; try with_reducible rfl); simp only [Act.put, List.setIfInBounds_toArray, List.set_cons_zero, List.set_cons_succ]
  refine Lex3.run_free (v := ?_) (by rfl) (by rfl) (fun u => ?_) ?_; rotate_left; (go_simp; try with_reducible rfl); simp only [Act.put, List.setIfInBounds_toArray, List.set_cons_zero, List.set_cons_succ]
  refine Lex3.run_load (v := ?_) (by rfl) (by rfl) (fun u hu => ?_) ?_; rotate_left; (obtain ⟨hu0, hu1⟩ := hu; go_simp; try with_reducible rfl); simp only [Act.put, List.setIfInBounds_toArray, List.set_cons_zero, List.set_cons_succ]
  refine Lex3.run_free (v := ?_) (by rfl) (by rfl) (fun u => ?_) ?_; rotate_left; (go_simp; try with_reducible rfl); simp only [Act.put, List.setIfInBounds_toArray, List.set_cons_zero, List.set_cons_succ]
  refine Lex3.run_eff (by rfl) (by rfl) (fun n' K' hK => ?_)
  go_simp
  refine (Go.Proofs.Ytlbocfinjlkebaa.Pieces.at_any I n _ (by omega) (by omega)).mono ?_
  rintro e w' ⟨v0, rfl, v1, v2, rfl⟩
  obtain ⟨k, rfl⟩ := Int.eq_ofNat_of_zero_le v1
  have kl : k < n := by omega
  obtain ⟨e1, he1⟩ : ∃ e, es[k]? = some e := ⟨_, List.getElem?_eq_getElem (by omega)⟩
  refine hK _ _ ⟨c0, o1⟩ ?_
  clear hK K' v1 v2
  try simp only [Act.put, List.setIfInBounds_toArray, List.set_cons_zero, List.set_cons_succ]
  refine Lex3.run_free (v := ?_) (by rfl) (by rfl) (fun u => ?_) ?_; rotate_left; (go_simp; try with_reducible rfl); simp only [Act.put, List.setIfInBounds_toArray, List.set_cons_zero, List.set_cons_succ]
  refine Lex3.run_nil (fun n3 => ?_)
  try simp only [World.drewN_drewN]
  generalize hGe1 : 1 + n' + n3 = Ne1
  clear hGe1
  go_upto_region 5 with fail
  refine Lex3.wp_region_lex [] (fun u => u.cell? ⟨B, 0, none⟩ = some (.slice (some ⟨gP, 0, none⟩) n cP) ∧ u.cell? ⟨t, 2, none⟩ = some (.int .i64 J)) (fun u n h => h) ⟨c0, o2⟩ (by kernel_rfl) (by kernel_rfl) ?_
  refine Lex3.run_free (v := ?_) (by rfl) (by rfl) (fun u => ?_) ?_; rotate_left; (go_simp; try with_reducible rfl); simp only [Act.put, List.setIfInBounds_toArray, List.set_cons_zero, List.set_cons_succ]
  refine Lex3.run_load (v := ?_) (by rfl) (by rfl) (fun u hu => ?_) ?_; rotate_left; (obtain ⟨hu0, hu1⟩ := hu; go_simp; try with_reducible rfl); simp only [Act.put, List.setIfInBounds_toArray, List.set_cons_zero, List.set_cons_succ]
  refine Lex3.run_free (v := ?_) (by rfl) (by rfl) (fun u => ?_) ?_; rotate_left; (go_simp; try with_reducible rfl); simp only [Act.put, List.setIfInBounds_toArray, List.set_cons_zero, List.set_cons_succ]
  refine Lex3.run_free (v := ?_) (by rfl) (by rfl) (fun u => ?_) ?_; rotate_left; (go_simp; try with_reducible rfl); simp only [Act.put, List.setIfInBounds_toArray, List.set_cons_zero, List.set_cons_succ]
  refine Lex3.run_free (v := ?_) (by rfl) (by rfl) (fun u => ?_) ?_; rotate_left; (go_simp; try with_reducible rfl); simp only [Act.put, List.setIfInBounds_toArray, List.set_cons_zero, List.set_cons_succ]
  refine Lex3.run_load (v := ?_) (by rfl) (by rfl) (fun u hu => ?_) ?_; rotate_left; (obtain ⟨hu0, hu1⟩ := hu; go_simp; try with_reducible rfl); simp only [Act.put, List.setIfInBounds_toArray, List.set_cons_zero, List.set_cons_succ]
  refine Lex3.run_free (v := ?_) (by rfl) (by rfl) (fun u => ?_) ?_; rotate_left; (go_simp; try with_reducible rfl); simp only [Act.put, List.setIfInBounds_toArray, List.set_cons_zero, List.set_cons_succ]
  refine Lex3.run_eff (by rfl) (by rfl) (fun n' K' hK => ?_)
  go_simp
  refine (Go.Proofs.Ytlbocfinjlkebaa.Pieces.at_any J n _ (by omega) (by omega)).mono ?_
  rintro e w' ⟨v0, rfl, v1, v2, rfl⟩
  obtain ⟨j, rfl⟩ := Int.eq_ofNat_of_zero_le v1
  have jl : j < n := by omega
  obtain ⟨e2, he2⟩ : ∃ e, es[j]? = some e := ⟨_, List.getElem?_eq_getElem (by omega)⟩
  refine hK _ _ ⟨c0, o2⟩ ?_
  clear hK K' v1 v2
  try simp only [Act.put, List.setIfInBounds_toArray, List.set_cons_zero, List.set_cons_succ]
  refine Lex3.run_free (v := ?_) (by rfl) (by rfl) (fun u => ?_) ?_; rotate_left; (go_simp; try with_reducible rfl); simp only [Act.put, List.setIfInBounds_toArray, List.set_cons_zero, List.set_cons_succ]
  refine Lex3.run_nil (fun n3 => ?_)
  try simp only [World.drewN_drewN]
  generalize hGe2 : Ne1 + 1 + n' + n3 = ND
  clear hGe2
  obtain ⟨bp, gp, cp, bq, gq, cq, W, H, zs, zt, rfl⟩ : ∃ bp gp cp bq gq cq W H zs zs', e1 = ⟨bp, gp, cp, bq, gq, cq, W, H, zs, zs'⟩ := ⟨_, _, _, _, _, _, _, _, _, _, rfl⟩
  obtain rfl : zs = zt := hz _ (List.mem_of_getElem? he1)
  obtain ⟨bp2, gp2, cp2, bq2, gq2, cq2, W2, H2, zs2, zt2, rfl⟩ : ∃ bp gp cp bq gq cq W H zs zs', e2 = ⟨bp, gp, cp, bq, gq, cq, W, H, zs, zs'⟩ := ⟨_, _, _, _, _, _, _, _, _, _, rfl⟩
  obtain rfl : zs2 = zt2 := hz _ (List.mem_of_getElem? he2)
  replace h1 := h1.drewN ND
  replace t1 := t1.drewN ND
  replace b1 := below_drewN b1 ND
  clear o0 o1 o2 c0 o3 o4 o7
  generalize (w1.drewN ND) = w2 at h1 t1 b1 ⊢
  clear f1
  have c0 := h1.p0
  have c1 := h1.p1
  have e1 := h1.cellP hn he1
  have e2 := h1.cellQ hn he1
  have e3 := h1.cellP hn he2
  have e4 := h1.cellQ hn he2
  dsimp only at e1 e2 e3 e4
  obtain ⟨⟨hp, hq⟩, ⟨rr1, rr2, rr3, rr4⟩, _⟩ := h1.ent k _ he1
  obtain ⟨⟨hp2, hq2⟩, ⟨ss1, ss2, ss3, ss4⟩, _⟩ := h1.ent j _ he2
  dsimp only at hp hq hp2 hq2 rr1 rr2 rr3 rr4 ss1 ss2 ss3 ss4
  have o0 : w2.cell? ⟨t, 0, none⟩ = some (.int .i64 3) := by rw [t1.cell]; rfl
  have o3 : w2.cell? ⟨t, 3, none⟩ = some (.int .i64 a) := by rw [t1.cell]; rfl
  have o4 : w2.cell? ⟨t, 4, none⟩ = some (.int .i64 b) := by rw [t1.cell]; rfl
  have o7 : w2.cell? ⟨t, 7, none⟩ = some (.int .i64 v) := by rw [t1.cell]; rfl
  go_upto_region 9 with fail
  refine Lex3.wp_region_lex [] (fun u => u.cell? ⟨B, 0, none⟩ = some (.slice (some ⟨gP, 0, none⟩) n cP) ∧ u.cell? ⟨gP, k, none⟩ = some (.pointer (some ⟨bp, 0, none⟩)) ∧ u.cell? ⟨t, 3, none⟩ = some (.int .i64 a) ∧ u.cell? ⟨t, 4, none⟩ = some (.int .i64 b) ∧ u.cell? ⟨t, 7, none⟩ = some (.int .i64 v)) (fun u n h => h) ⟨c0, e1, o3, o4, o7⟩ (by kernel_rfl) (by kernel_rfl) ?_
  refine Lex3.run_free (v := ?_) (by rfl) (by rfl) (fun u => ?_) ?_; rotate_left; (go_simp; try with_reducible rfl); simp only [Act.put, List.setIfInBounds_toArray, List.set_cons_zero, List.set_cons_succ]
  refine Lex3.run_free (v := ?_) (by rfl) (by rfl) (fun u => ?_) ?_; rotate_left; (go_simp; try with_reducible rfl); simp only [Act.put, List.setIfInBounds_toArray, List.set_cons_zero, List.set_cons_succ]
  refine Lex3.run_free (v := ?_) (by rfl) (by rfl) (fun u => ?_) ?_; rotate_left; (go_simp; try with_reducible rfl); simp only [Act.put, List.setIfInBounds_toArray, List.set_cons_zero, List.set_cons_succ]
  refine Lex3.run_load (v := ?_) (by rfl) (by rfl) (fun u hu => ?_) ?_; rotate_left; (obtain ⟨hu0, hu1, hu2, hu3, hu4⟩ := hu; go_simp; try with_reducible rfl); simp only [Act.put, List.setIfInBounds_toArray, List.set_cons_zero, List.set_cons_succ]
  refine Lex3.run_free (v := ?_) (by rfl) (by rfl) (fun u => ?_) ?_; rotate_left; (go_simp; try with_reducible rfl); simp only [Act.put, List.setIfInBounds_toArray, List.set_cons_zero, List.set_cons_succ]
  refine Lex3.run_free (v := ?_) (by rfl) (by rfl) (fun u => ?_) ?_; rotate_left; (go_simp; try with_reducible rfl); simp only [Act.put, List.setIfInBounds_toArray, List.set_cons_zero, List.set_cons_succ]
  refine Lex3.run_load (v := ?_) (by rfl) (by rfl) (fun u hu => ?_) ?_; rotate_left; (obtain ⟨hu0, hu1, hu2, hu3, hu4⟩ := hu; go_simp; try with_reducible rfl); simp only [Act.put, List.setIfInBounds_toArray, List.set_cons_zero, List.set_cons_succ]
  refine Lex3.run_free (v := ?_) (by rfl) (by rfl) (fun u => ?_) ?_; rotate_left; (go_simp; try with_reducible rfl); simp only [Act.put, List.setIfInBounds_toArray, List.set_cons_zero, List.set_cons_succ]
  refine Lex3.run_load (v := ?_) (by rfl) (by rfl) (fun u hu => ?_) ?_; rotate_left; (obtain ⟨hu0, hu1, hu2, hu3, hu4⟩ := hu; go_simp; try with_reducible rfl); simp only [Act.put, List.setIfInBounds_toArray, List.set_cons_zero, List.set_cons_succ]
  refine Lex3.run_free (v := ?_) (by rfl) (by rfl) (fun u => ?_) ?_; rotate_left; (go_simp; try with_reducible rfl); simp only [Act.put, List.setIfInBounds_toArray, List.set_cons_zero, List.set_cons_succ]
  refine Lex3.run_load (v := ?_) (by rfl) (by rfl) (fun u hu => ?_) ?_; rotate_left; (obtain ⟨hu0, hu1, hu2, hu3, hu4⟩ := hu; go_simp; try with_reducible rfl); simp only [Act.put, List.setIfInBounds_toArray, List.set_cons_zero, List.set_cons_succ]
  refine Lex3.run_free (v := ?_) (by rfl) (by rfl) (fun u => ?_) ?_; rotate_left; (go_simp; try with_reducible rfl); simp only [Act.put, List.setIfInBounds_toArray, List.set_cons_zero, List.set_cons_succ]
  refine Lex3.run_load (v := ?_) (by rfl) (by rfl) (fun u hu => ?_) ?_; rotate_left; (obtain ⟨hu0, hu1, hu2, hu3, hu4⟩ := hu; go_simp; try with_reducible rfl); simp only [Act.put, List.setIfInBounds_toArray, List.set_cons_zero, List.set_cons_succ]
  refine Lex3.run_eff (by rfl) (by rfl) (fun n' K' hK => ?_)
  go_simp
  refine (setI bp gp W H cp zs a b v _ (hp.drewN _)).mono ?_
  rintro e w3 ⟨rfl, hp3, hg3⟩
  obtain ⟨h3, b3, f3⟩ := (h1.drewN (1 + n')).setP he1 hg3 hp3
  have he3 : (es.set k ⟨bp, gp, cp, bq, gq, cq, W, H, setZ W H zs a b v, zs⟩)[k]? = some ⟨bp, gp, cp, bq, gq, cq, W, H, setZ W H zs a b v, zs⟩ := List.getElem?_set_self (by omega)
  have hn3 : (es.set k ⟨bp, gp, cp, bq, gq, cq, W, H, setZ W H zs a b v, zs⟩).length = n := by rw [List.length_set]; exact hn
  dsimp only at h3
  rw [← mapP_set (z1 := setZ W H zs a b v) (z2 := zs) he1, ← mapQ_set (z1 := setZ W H zs a b v) (z2 := zs) he1] at h3
  dsimp only at h3
  have t3 := f3.blk (t1.drewN (1 + n')) hrt
  have hrt3 := f3.role t1.lt hrt
  refine hK _ _ ⟨(h3).p0, (h3).cellP hn3 he3, by rw [(t3).cell]; rfl, by rw [(t3).cell]; rfl, by rw [(t3).cell]; rfl⟩ ?_
  clear hK K'
  try simp only [Act.put, List.setIfInBounds_toArray, List.set_cons_zero, List.set_cons_succ]
  refine Lex3.run_free (v := ?_) (by rfl) (by rfl) (fun u => ?_) ?_; rotate_left; (go_simp; try with_reducible rfl); simp only [Act.put, List.setIfInBounds_toArray, List.set_cons_zero, List.set_cons_succ]
  refine Lex3.run_nil (fun n3 => ?_)
  replace h3 := h3.drewN n3
  replace t3 := t3.drewN n3
  replace b3 : Below base w2 (w3.drewN n3) := below_drewN ((below_drewN (Below.refl _ _) (1 + n')).trans b3) n3
  generalize (w3.drewN n3) = w4 at h3 t3 b3 ⊢
  clear f3 hp3 hg3 c0 c1 e1 e2 e3 e4 o0 o3 o4 o7 hp hq hp2 hq2
  have c1 := h3.p1
  have e2 := h3.cellQ hn3 he3
  have hq := (h3.ent k _ he3).1.2
  dsimp only at e2 hq
  have o3 : w4.cell? ⟨t, 3, none⟩ = some (.int .i64 a) := by rw [t3.cell]; rfl
  have o4 : w4.cell? ⟨t, 4, none⟩ = some (.int .i64 b) := by rw [t3.cell]; rfl
  have o7 : w4.cell? ⟨t, 7, none⟩ = some (.int .i64 v) := by rw [t3.cell]; rfl
  go_upto_region 10 with fail
  refine Lex3.wp_region_lex [] (fun u => u.cell? ⟨B, 1, none⟩ = some (.slice (some ⟨gQ, 0, none⟩) n cQ) ∧ u.cell? ⟨gQ, k, none⟩ = some (.pointer (some ⟨bq, 0, none⟩)) ∧ u.cell? ⟨t, 3, none⟩ = some (.int .i64 a) ∧ u.cell? ⟨t, 4, none⟩ = some (.int .i64 b) ∧ u.cell? ⟨t, 7, none⟩ = some (.int .i64 v)) (fun u n h => h) ⟨c1, e2, o3, o4, o7⟩ (by kernel_rfl) (by kernel_rfl) ?_
  refine Lex3.run_free (v := ?_) (by rfl) (by rfl) (fun u => ?_) ?_; rotate_left; (go_simp; try with_reducible rfl); simp only [Act.put, List.setIfInBounds_toArray, List.set_cons_zero, List.set_cons_succ]
  refine Lex3.run_free (v := ?_) (by rfl) (by rfl) (fun u => ?_) ?_; rotate_left; (go_simp; try with_reducible rfl); simp only [Act.put, List.setIfInBounds_toArray, List.set_cons_zero, List.set_cons_succ]
  refine Lex3.run_free (v := ?_) (by rfl) (by rfl) (fun u => ?_) ?_; rotate_left; (go_simp; try with_reducible rfl); simp only [Act.put, List.setIfInBounds_toArray, List.set_cons_zero, List.set_cons_succ]
  refine Lex3.run_free (v := ?_) (by rfl) (by rfl) (fun u => ?_) ?_; rotate_left; (go_simp; try with_reducible rfl); simp only [Act.put, List.setIfInBounds_toArray, List.set_cons_zero, List.set_cons_succ]
  refine Lex3.run_free (v := ?_) (by rfl) (by rfl) (fun u => ?_) ?_; rotate_left; (go_simp; try with_reducible rfl); simp only [Act.put, List.setIfInBounds_toArray, List.set_cons_zero, List.set_cons_succ]
  refine Lex3.run_load (v := ?_) (by rfl) (by rfl) (fun u hu => ?_) ?_; rotate_left; (obtain ⟨hu0, hu1, hu2, hu3, hu4⟩ := hu; go_simp; try with_reducible rfl); simp only [Act.put, List.setIfInBounds_toArray, List.set_cons_zero, List.set_cons_succ]
  refine Lex3.run_free (v := ?_) (by rfl) (by rfl) (fun u => ?_) ?_; rotate_left; (go_simp; try with_reducible rfl); simp only [Act.put, List.setIfInBounds_toArray, List.set_cons_zero, List.set_cons_succ]
  refine Lex3.run_free (v := ?_) (by rfl) (by rfl) (fun u => ?_) ?_; rotate_left; (go_simp; try with_reducible rfl); simp only [Act.put, List.setIfInBounds_toArray, List.set_cons_zero, List.set_cons_succ]
  refine Lex3.run_load (v := ?_) (by rfl) (by rfl) (fun u hu => ?_) ?_; rotate_left; (obtain ⟨hu0, hu1, hu2, hu3, hu4⟩ := hu; go_simp; try with_reducible rfl); simp only [Act.put, List.setIfInBounds_toArray, List.set_cons_zero, List.set_cons_succ]
  refine Lex3.run_free (v := ?_) (by rfl) (by rfl) (fun u => ?_) ?_; rotate_left; (go_simp; try with_reducible rfl); simp only [Act.put, List.setIfInBounds_toArray, List.set_cons_zero, List.set_cons_succ]
  refine Lex3.run_load (v := ?_) (by rfl) (by rfl) (fun u hu => ?_) ?_; rotate_left; (obtain ⟨hu0, hu1, hu2, hu3, hu4⟩ := hu; go_simp; try with_reducible rfl); simp only [Act.put, List.setIfInBounds_toArray, List.set_cons_zero, List.set_cons_succ]
  refine Lex3.run_free (v := ?_) (by rfl) (by rfl) (fun u => ?_) ?_; rotate_left; (go_simp; try with_reducible rfl); simp only [Act.put, List.setIfInBounds_toArray, List.set_cons_zero, List.set_cons_succ]
  refine Lex3.run_load (v := ?_) (by rfl) (by rfl) (fun u hu => ?_) ?_; rotate_left; (obtain ⟨hu0, hu1, hu2, hu3, hu4⟩ := hu; go_simp; try with_reducible rfl); simp only [Act.put, List.setIfInBounds_toArray, List.set_cons_zero, List.set_cons_succ]
  refine Lex3.run_free (v := ?_) (by rfl) (by rfl) (fun u => ?_) ?_; rotate_left; (go_simp; try with_reducible rfl); simp only [Act.put, List.setIfInBounds_toArray, List.set_cons_zero, List.set_cons_succ]
  refine Lex3.run_load (v := ?_) (by rfl) (by rfl) (fun u hu => ?_) ?_; rotate_left; (obtain ⟨hu0, hu1, hu2, hu3, hu4⟩ := hu; go_simp; try with_reducible rfl); simp only [Act.put, List.setIfInBounds_toArray, List.set_cons_zero, List.set_cons_succ]
  refine Lex3.run_eff (by rfl) (by rfl) (fun n' K' hK => ?_)
  go_simp
  refine (set_any bq gq W H cq zs a b v _ (hq.drewN _)).mono ?_
  rintro e w5 ⟨rfl, hp5, hg5⟩
  obtain ⟨h5, b5, f5⟩ := (h3.drewN (1 + n')).setQ he3 hg5 hp5
  dsimp only at h5
  rw [List.set_set] at h5
  have he5 : (es.set k ⟨bp, gp, cp, bq, gq, cq, W, H, setZ W H zs a b v, setZ W H zs a b v⟩)[k]? = some ⟨bp, gp, cp, bq, gq, cq, W, H, setZ W H zs a b v, setZ W H zs a b v⟩ := List.getElem?_set_self (by omega)
  have hn5 : (es.set k ⟨bp, gp, cp, bq, gq, cq, W, H, setZ W H zs a b v, setZ W H zs a b v⟩).length = n := by rw [List.length_set]; exact hn
  have em : (es.set k ⟨bp, gp, cp, bq, gq, cq, W, H, setZ W H zs a b v, zs⟩).map pP = (es.set k ⟨bp, gp, cp, bq, gq, cq, W, H, setZ W H zs a b v, setZ W H zs a b v⟩).map pP := by
    have h7 := mapP_set (z1 := setZ W H zs a b v) (z2 := zs) he1
    have h8 := mapP_set (z1 := setZ W H zs a b v) (z2 := setZ W H zs a b v) he1
    dsimp only at h7 h8
    rw [h7, h8]
  have em2 : (es.set k ⟨bp, gp, cp, bq, gq, cq, W, H, setZ W H zs a b v, zs⟩).map pQ = (es.set k ⟨bp, gp, cp, bq, gq, cq, W, H, setZ W H zs a b v, setZ W H zs a b v⟩).map pQ := by
    have h7 := mapQ_set (z1 := setZ W H zs a b v) (z2 := zs) he1
    have h8 := mapQ_set (z1 := setZ W H zs a b v) (z2 := setZ W H zs a b v) he1
    dsimp only at h7 h8
    rw [h7, h8]
  rw [em, em2] at h5
  have t5 := f5.blk (t3.drewN (1 + n')) hrt3
  have hrt5 := f5.role t3.lt hrt3
  have bb5 : Below base w2 w5 := (below_drewN b3 (1 + n')).trans b5
  refine hK _ _ ⟨(h5).p1, (h5).cellQ hn5 he5, by rw [(t5).cell]; rfl, by rw [(t5).cell]; rfl, by rw [(t5).cell]; rfl⟩ ?_
  generalize inB a b W H = ib
  clear c1 e2 o3 o4 o7 h3 t3
  have hC2 : ∀ N, (w5.drewN N).cell? ⟨B, 2, none⟩ = some (.bool true) := fun _ => h5.p2
  have hF2 : ∀ N, (w5.drewN N).frozen? ⟨B, 2, none⟩ = false := fun _ => h5.frozen 2
  clear hK K'
  try simp only [Act.put, List.setIfInBounds_toArray, List.set_cons_zero, List.set_cons_succ]
  refine Lex3.run_free (v := ?_) (by rfl) (by rfl) (fun u => ?_) ?_; rotate_left; (go_simp; try with_reducible rfl); simp only [Act.put, List.setIfInBounds_toArray, List.set_cons_zero, List.set_cons_succ]
  refine Lex3.run_free (v := ?_) (by rfl) (by rfl) (fun u => ?_) ?_; rotate_left; (go_simp; try with_reducible rfl); simp only [Act.put, List.setIfInBounds_toArray, List.set_cons_zero, List.set_cons_succ]
  refine Lex3.run_free (v := ?_) (by rfl) (by rfl) (fun u => ?_) ?_; rotate_left; (go_simp; try with_reducible rfl); simp only [Act.put, List.setIfInBounds_toArray, List.set_cons_zero, List.set_cons_succ]
  refine Lex3.run_eff (by rfl) (by rfl) (fun n9 K' hK => ?_)
  go_simp
  have tm := fun N => (h5.drewN N).markF.blk (t5.drewN N) hrt5
  refine hK _ _ ⟨((h5.drewN _).mark).p1, ((h5.drewN _).mark).cellQ hn5 he5, by rw [(tm _).cell]; rfl, by rw [(tm _).cell]; rfl, by rw [(tm _).cell]; rfl⟩ ?_
  clear hK K'
  try simp only [Act.put, List.setIfInBounds_toArray, List.set_cons_zero, List.set_cons_succ]

  refine Lex3.run_nil (fun n3 => ?_)
  go_wp2_with fail
  refine bodyPost_end (results_none rfl _ _ _) rfl ?_
  exact Goes.same (below_drewN ((h5.drewN _).markB (below_drewN (b1.trans bb5) _)) _) ((h5.drewN _).mark.drewN _) (same_set hz (by rfl)) hn5

set_option maxRecDepth 100000 in
set_option maxHeartbeats 16000000 in
theorem one_map (base B n : Nat) (r : Nat → Nat) (vp vq : Value) (es : List Ent) (I J a b c d v : Int) (A : Option Addr) (m mc : Nat) (w : World) (h : Book base w B r vp vq (es.map pP) (es.map pQ) es) (hz : ∀ e ∈ es, e.zp = e.zq) (hn : es.length = n) (hm : n ≤ 8388608) (h1n : 1 ≤ n) :
    Calls Try.prog 74 #[.pointer (some ⟨B, 0, none⟩), .agg #[.int .i64 11, .int .i64 I, .int .i64 J, .int .i64 a, .int .i64 b, .int .i64 c, .int .i64 d, .int .i64 v, .slice A m mc]] w (Goes base B n w) := by
  have hsee : ∃ gP cP gQ cQ, vp = .slice (some ⟨gP, 0, none⟩) n cP ∧ vq = .slice (some ⟨gQ, 0, none⟩) n cQ := by
    obtain ⟨e, he⟩ : ∃ e, es[0]? = some e := ⟨_, List.getElem?_eq_getElem (by omega)⟩
    obtain ⟨gP, cP, gQ, cQ, q1, q2, _⟩ := h.see n hn he
    exact ⟨gP, cP, gQ, cQ, q1, q2⟩
  obtain ⟨gP, cP, gQ, cQ, rfl, rfl⟩ := hsee
  obtain ⟨r1, h1, f1, hrt, t1, b1⟩ := h.box #[.int .i64 11, .int .i64 I, .int .i64 J, .int .i64 a, .int .i64 b, .int .i64 c, .int .i64 d, .int .i64 v, .slice A m mc] 119
  go_enter Try.func74, Try.ntmps74
  go_upto_region 1 with fail
  generalize (w.alloc (.cells #[.int .i64 11, .int .i64 I, .int .i64 J, .int .i64 a, .int .i64 b, .int .i64 c, .int .i64 d, .int .i64 v, .slice A m mc] 119)) = w1 at h1 f1 t1 b1 ⊢
  generalize w.heap.size = t at hrt t1 ⊢
  have o0 : w1.cell? ⟨t, 0, none⟩ = some (.int .i64 11) := by rw [t1.cell]; rfl
  have o1 : w1.cell? ⟨t, 1, none⟩ = some (.int .i64 I) := by rw [t1.cell]; rfl
  have o2 : w1.cell? ⟨t, 2, none⟩ = some (.int .i64 J) := by rw [t1.cell]; rfl
  have o3 : w1.cell? ⟨t, 3, none⟩ = some (.int .i64 a) := by rw [t1.cell]; rfl
  have o4 : w1.cell? ⟨t, 4, none⟩ = some (.int .i64 b) := by rw [t1.cell]; rfl
  have o5 : w1.cell? ⟨t, 5, none⟩ = some (.int .i64 c) := by rw [t1.cell]; rfl
  have o6 : w1.cell? ⟨t, 6, none⟩ = some (.int .i64 d) := by rw [t1.cell]; rfl
  have o7 : w1.cell? ⟨t, 7, none⟩ = some (.int .i64 v) := by rw [t1.cell]; rfl
  have o8 : w1.cell? ⟨t, 8, none⟩ = some (.slice A m mc) := by rw [t1.cell]; rfl
  have c0 := h1.p0
  have hkn : ((n : Int) == 0) = false := by simp; omega
  go_upto_region 4 with fail
  refine Lex3.wp_region_lex [] (fun u => u.cell? ⟨B, 0, none⟩ = some (.slice (some ⟨gP, 0, none⟩) n cP) ∧ u.cell? ⟨t, 1, none⟩ = some (.int .i64 I)) (fun u n h => h) ⟨c0, o1⟩ (by kernel_rfl) (by kernel_rfl) ?_
  refine Lex3.run_free (v := ?_) (by rfl) (by rfl) (fun u => ?_) ?_; rotate_left; (go_simp; try with_reducible rfl); simp only [Act.put, List.setIfInBounds_toArray, List.set_cons_zero, List.set_cons_succ]
  refine Lex3.run_load (v := ?_) (by rfl) (by rfl) (fun u hu => ?_) ?_; rotate_left; (obtain ⟨hu0, hu1⟩ := hu; go_simp; try with_reducible rfl); simp only [Act.put, List.setIfInBounds_toArray, List.set_cons_zero, List.set_cons_succ]
  refine Lex3.run_free (v := ?_) (by rfl) (by rfl) (fun u => ?_) ?_; rotate_left; (go_simp; try with_reducible rfl); simp only [Act.put, List.setIfInBounds_toArray, List.set_cons_zero, List.set_cons_succ]
  refine Lex3.run_free (v := ?_) (by rfl) (by rfl) (fun u => ?_) ?_; rotate_left; (go_simp; try with_reducible rfl); simp only [Act.put, List.setIfInBounds_toArray, List.set_cons_zero, List.set_cons_succ]
  refine Lex3.run_free (v := ?_) (by rfl) (by rfl) (fun u => ?_) ?_; rotate_left; (go_simp; try with_reducible rfl); simp only [Act.put, List.setIfInBounds_toArray, List.set_cons_zero, List.set_cons_succ]
  refine Lex3.run_load (v := ?_) (by rfl) (by rfl) (fun u hu => ?_) ?_; rotate_left; (obtain ⟨hu0, hu1⟩ := hu; go_simp; try with_reducible rfl); simp only [Act.put, List.setIfInBounds_toArray, List.set_cons_zero, List.set_cons_succ]
  refine Lex3.run_free (v := ?_) (by rfl) (by rfl) (fun u => ?_) ?_; rotate_left; (go_simp; try with_reducible rfl); simp only [Act.put, List.setIfInBounds_toArray, List.set_cons_zero, List.set_cons_succ]
  refine Lex3.run_eff (by rfl) (by rfl) (fun n' K' hK => ?_)
  go_simp
  refine (Go.Proofs.Ytlbocfinjlkebaa.Pieces.at_any I n _ (by omega) (by omega)).mono ?_
  rintro e w' ⟨v0, rfl, v1, v2, rfl⟩
  obtain ⟨k, rfl⟩ := Int.eq_ofNat_of_zero_le v1
  have kl : k < n := by omega
  obtain ⟨e1, he1⟩ : ∃ e, es[k]? = some e := ⟨_, List.getElem?_eq_getElem (by omega)⟩
  refine hK _ _ ⟨c0, o1⟩ ?_
  clear hK K' v1 v2
  try simp only [Act.put, List.setIfInBounds_toArray, List.set_cons_zero, List.set_cons_succ]
  refine Lex3.run_free (v := ?_) (by rfl) (by rfl) (fun u => ?_) ?_; rotate_left; (go_simp; try with_reducible rfl); simp only [Act.put, List.setIfInBounds_toArray, List.set_cons_zero, List.set_cons_succ]
  refine Lex3.run_nil (fun n3 => ?_)
  try simp only [World.drewN_drewN]
  generalize hGe1 : 1 + n' + n3 = Ne1
  clear hGe1
  go_upto_region 5 with fail
  refine Lex3.wp_region_lex [] (fun u => u.cell? ⟨B, 0, none⟩ = some (.slice (some ⟨gP, 0, none⟩) n cP) ∧ u.cell? ⟨t, 2, none⟩ = some (.int .i64 J)) (fun u n h => h) ⟨c0, o2⟩ (by kernel_rfl) (by kernel_rfl) ?_
  refine Lex3.run_free (v := ?_) (by rfl) (by rfl) (fun u => ?_) ?_; rotate_left; (go_simp; try with_reducible rfl); simp only [Act.put, List.setIfInBounds_toArray, List.set_cons_zero, List.set_cons_succ]
  refine Lex3.run_load (v := ?_) (by rfl) (by rfl) (fun u hu => ?_) ?_; rotate_left; (obtain ⟨hu0, hu1⟩ := hu; go_simp; try with_reducible rfl); simp only [Act.put, List.setIfInBounds_toArray, List.set_cons_zero, List.set_cons_succ]
  refine Lex3.run_free (v := ?_) (by rfl) (by rfl) (fun u => ?_) ?_; rotate_left; (go_simp; try with_reducible rfl); simp only [Act.put, List.setIfInBounds_toArray, List.set_cons_zero, List.set_cons_succ]
  refine Lex3.run_free (v := ?_) (by rfl) (by rfl) (fun u => ?_) ?_; rotate_left; (go_simp; try with_reducible rfl); simp only [Act.put, List.setIfInBounds_toArray, List.set_cons_zero, List.set_cons_succ]
  refine Lex3.run_free (v := ?_) (by rfl) (by rfl) (fun u => ?_) ?_; rotate_left; (go_simp; try with_reducible rfl); simp only [Act.put, List.setIfInBounds_toArray, List.set_cons_zero, List.set_cons_succ]
  refine Lex3.run_load (v := ?_) (by rfl) (by rfl) (fun u hu => ?_) ?_; rotate_left; (obtain ⟨hu0, hu1⟩ := hu; go_simp; try with_reducible rfl); simp only [Act.put, List.setIfInBounds_toArray, List.set_cons_zero, List.set_cons_succ]
  refine Lex3.run_free (v := ?_) (by rfl) (by rfl) (fun u => ?_) ?_; rotate_left; (go_simp; try with_reducible rfl); simp only [Act.put, List.setIfInBounds_toArray, List.set_cons_zero, List.set_cons_succ]
  refine Lex3.run_eff (by rfl) (by rfl) (fun n' K' hK => ?_)
  go_simp
  refine (Go.Proofs.Ytlbocfinjlkebaa.Pieces.at_any J n _ (by omega) (by omega)).mono ?_
  rintro e w' ⟨v0, rfl, v1, v2, rfl⟩
  obtain ⟨j, rfl⟩ := Int.eq_ofNat_of_zero_le v1
  have jl : j < n := by omega
  obtain ⟨e2, he2⟩ : ∃ e, es[j]? = some e := ⟨_, List.getElem?_eq_getElem (by omega)⟩
  refine hK _ _ ⟨c0, o2⟩ ?_
  clear hK K' v1 v2
  try simp only [Act.put, List.setIfInBounds_toArray, List.set_cons_zero, List.set_cons_succ]
  refine Lex3.run_free (v := ?_) (by rfl) (by rfl) (fun u => ?_) ?_; rotate_left; (go_simp; try with_reducible rfl); simp only [Act.put, List.setIfInBounds_toArray, List.set_cons_zero, List.set_cons_succ]
  refine Lex3.run_nil (fun n3 => ?_)
  try simp only [World.drewN_drewN]
  generalize hGe2 : Ne1 + 1 + n' + n3 = ND
  clear hGe2
  obtain ⟨bp, gp, cp, bq, gq, cq, W, H, zs, zt, rfl⟩ : ∃ bp gp cp bq gq cq W H zs zs', e1 = ⟨bp, gp, cp, bq, gq, cq, W, H, zs, zs'⟩ := ⟨_, _, _, _, _, _, _, _, _, _, rfl⟩
  obtain rfl : zs = zt := hz _ (List.mem_of_getElem? he1)
  obtain ⟨bp2, gp2, cp2, bq2, gq2, cq2, W2, H2, zs2, zt2, rfl⟩ : ∃ bp gp cp bq gq cq W H zs zs', e2 = ⟨bp, gp, cp, bq, gq, cq, W, H, zs, zs'⟩ := ⟨_, _, _, _, _, _, _, _, _, _, rfl⟩
  obtain rfl : zs2 = zt2 := hz _ (List.mem_of_getElem? he2)
  replace h1 := h1.drewN ND
  replace t1 := t1.drewN ND
  replace b1 := below_drewN b1 ND
  clear o0 o1 o2 c0 o3 o4 o5 o6 o7 o8
  generalize (w1.drewN ND) = w2 at h1 t1 b1 ⊢
  clear f1
  have c0 := h1.p0
  have c1 := h1.p1
  have e1 := h1.cellP hn he1
  have e2 := h1.cellQ hn he1
  have e3 := h1.cellP hn he2
  have e4 := h1.cellQ hn he2
  dsimp only at e1 e2 e3 e4
  obtain ⟨⟨hp, hq⟩, ⟨rr1, rr2, rr3, rr4⟩, _⟩ := h1.ent k _ he1
  obtain ⟨⟨hp2, hq2⟩, ⟨ss1, ss2, ss3, ss4⟩, _⟩ := h1.ent j _ he2
  dsimp only at hp hq hp2 hq2 rr1 rr2 rr3 rr4 ss1 ss2 ss3 ss4
  have o0 : w2.cell? ⟨t, 0, none⟩ = some (.int .i64 11) := by rw [t1.cell]; rfl
  have o1 : w2.cell? ⟨t, 1, none⟩ = some (.int .i64 I) := by rw [t1.cell]; rfl
  have o2 : w2.cell? ⟨t, 2, none⟩ = some (.int .i64 J) := by rw [t1.cell]; rfl
  have o3 : w2.cell? ⟨t, 3, none⟩ = some (.int .i64 a) := by rw [t1.cell]; rfl
  have o4 : w2.cell? ⟨t, 4, none⟩ = some (.int .i64 b) := by rw [t1.cell]; rfl
  have o5 : w2.cell? ⟨t, 5, none⟩ = some (.int .i64 c) := by rw [t1.cell]; rfl
  have o6 : w2.cell? ⟨t, 6, none⟩ = some (.int .i64 d) := by rw [t1.cell]; rfl
  have o7 : w2.cell? ⟨t, 7, none⟩ = some (.int .i64 v) := by rw [t1.cell]; rfl
  have o8 : w2.cell? ⟨t, 8, none⟩ = some (.slice A m mc) := by rw [t1.cell]; rfl
  go_wp2_with fail
  refine (mapped_any base B n r1 _ _ es 11 I J a b c d v A m mc w2 h1 hz hn hm k _ he1).mono ?_
  rintro e w3 ⟨rfl, b3, hf⟩
  go_wp2_with fail
  refine bodyPost_end (results_none rfl _ _ _) rfl ?_
  exact ⟨rfl, b1.trans b3, hf⟩

set_option maxRecDepth 100000 in
set_option maxHeartbeats 16000000 in
theorem one_at (base B n : Nat) (r : Nat → Nat) (vp vq : Value) (es : List Ent) (I J a b c d v : Int) (A : Option Addr) (m mc : Nat) (w : World) (h : Book base w B r vp vq (es.map pP) (es.map pQ) es) (hz : ∀ e ∈ es, e.zp = e.zq) (hn : es.length = n) (hm : n ≤ 8388608) (h1n : 1 ≤ n) :
    Calls Try.prog 74 #[.pointer (some ⟨B, 0, none⟩), .agg #[.int .i64 4, .int .i64 I, .int .i64 J, .int .i64 a, .int .i64 b, .int .i64 c, .int .i64 d, .int .i64 v, .slice A m mc]] w (Goes base B n w) := by
  have hsee : ∃ gP cP gQ cQ, vp = .slice (some ⟨gP, 0, none⟩) n cP ∧ vq = .slice (some ⟨gQ, 0, none⟩) n cQ := by
    obtain ⟨e, he⟩ : ∃ e, es[0]? = some e := ⟨_, List.getElem?_eq_getElem (by omega)⟩
    obtain ⟨gP, cP, gQ, cQ, q1, q2, _⟩ := h.see n hn he
    exact ⟨gP, cP, gQ, cQ, q1, q2⟩
  obtain ⟨gP, cP, gQ, cQ, rfl, rfl⟩ := hsee
  obtain ⟨r1, h1, f1, hrt, t1, b1⟩ := h.box #[.int .i64 4, .int .i64 I, .int .i64 J, .int .i64 a, .int .i64 b, .int .i64 c, .int .i64 d, .int .i64 v, .slice A m mc] 119
  go_enter Try.func74, Try.ntmps74
  go_upto_region 1 with fail
  generalize (w.alloc (.cells #[.int .i64 4, .int .i64 I, .int .i64 J, .int .i64 a, .int .i64 b, .int .i64 c, .int .i64 d, .int .i64 v, .slice A m mc] 119)) = w1 at h1 f1 t1 b1 ⊢
  generalize w.heap.size = t at hrt t1 ⊢
  have o0 : w1.cell? ⟨t, 0, none⟩ = some (.int .i64 4) := by rw [t1.cell]; rfl
  have o1 : w1.cell? ⟨t, 1, none⟩ = some (.int .i64 I) := by rw [t1.cell]; rfl
  have o2 : w1.cell? ⟨t, 2, none⟩ = some (.int .i64 J) := by rw [t1.cell]; rfl
  have o3 : w1.cell? ⟨t, 3, none⟩ = some (.int .i64 a) := by rw [t1.cell]; rfl
  have o4 : w1.cell? ⟨t, 4, none⟩ = some (.int .i64 b) := by rw [t1.cell]; rfl
  have o5 : w1.cell? ⟨t, 5, none⟩ = some (.int .i64 c) := by rw [t1.cell]; rfl
  have o6 : w1.cell? ⟨t, 6, none⟩ = some (.int .i64 d) := by rw [t1.cell]; rfl
  have o7 : w1.cell? ⟨t, 7, none⟩ = some (.int .i64 v) := by rw [t1.cell]; rfl
  have o8 : w1.cell? ⟨t, 8, none⟩ = some (.slice A m mc) := by rw [t1.cell]; rfl
  have c0 := h1.p0
  have hkn : ((n : Int) == 0) = false := by simp; omega
  go_upto_region 4 with fail
  refine Lex3.wp_region_lex [] (fun u => u.cell? ⟨B, 0, none⟩ = some (.slice (some ⟨gP, 0, none⟩) n cP) ∧ u.cell? ⟨t, 1, none⟩ = some (.int .i64 I)) (fun u n h => h) ⟨c0, o1⟩ (by kernel_rfl) (by kernel_rfl) ?_
  refine Lex3.run_free (v := ?_) (by rfl) (by rfl) (fun u => ?_) ?_; rotate_left; (go_simp; try with_reducible rfl); simp only [Act.put, List.setIfInBounds_toArray, List.set_cons_zero, List.set_cons_succ]
  refine Lex3.run_load (v := ?_) (by rfl) (by rfl) (fun u hu => ?_) ?_; rotate_left; (obtain ⟨hu0, hu1⟩ := hu; go_simp; try with_reducible rfl); simp only [Act.put, List.setIfInBounds_toArray, List.set_cons_zero, List.set_cons_succ]
  refine Lex3.run_free (v := ?_) (by rfl) (by rfl) (fun u => ?_) ?_; rotate_left; (go_simp; try with_reducible rfl); simp only [Act.put, List.setIfInBounds_toArray, List.set_cons_zero, List.set_cons_succ]
  refine Lex3.run_free (v := ?_) (by rfl) (by rfl) (fun u => ?_) ?_; rotate_left; (go_simp; try with_reducible rfl); simp only [Act.put, List.setIfInBounds_toArray, List.set_cons_zero, List.set_cons_succ]
  refine Lex3.run_free (v := ?_) (by rfl) (by rfl) (fun u => ?_) ?_; rotate_left; (go_simp; try with_reducible rfl); simp only [Act.put, List.setIfInBounds_toArray, List.set_cons_zero, List.set_cons_succ]
  refine Lex3.run_load (v := ?_) (by rfl) (by rfl) (fun u hu => ?_) ?_; rotate_left; (obtain ⟨hu0, hu1⟩ := hu; go_simp; try with_reducible rfl); simp only [Act.put, List.setIfInBounds_toArray, List.set_cons_zero, List.set_cons_succ]
  refine Lex3.run_free (v := ?_) (by rfl) (by rfl) (fun u => ?_) ?_; rotate_left; (go_simp; try with_reducible rfl); simp only [Act.put, List.setIfInBounds_toArray, List.set_cons_zero, List.set_cons_succ]
  refine Lex3.run_eff (by rfl) (by rfl) (fun n' K' hK => ?_)
  go_simp
  refine (Go.Proofs.Ytlbocfinjlkebaa.Pieces.at_any I n _ (by omega) (by omega)).mono ?_
  rintro e w' ⟨v0, rfl, v1, v2, rfl⟩
  obtain ⟨k, rfl⟩ := Int.eq_ofNat_of_zero_le v1
  have kl : k < n := by omega
  obtain ⟨e1, he1⟩ : ∃ e, es[k]? = some e := ⟨_, List.getElem?_eq_getElem (by omega)⟩
  refine hK _ _ ⟨c0, o1⟩ ?_
  clear hK K' v1 v2
  try simp only [Act.put, List.setIfInBounds_toArray, List.set_cons_zero, List.set_cons_succ]
  refine Lex3.run_free (v := ?_) (by rfl) (by rfl) (fun u => ?_) ?_; rotate_left; (go_simp; try with_reducible rfl); simp only [Act.put, List.setIfInBounds_toArray, List.set_cons_zero, List.set_cons_succ]
  refine Lex3.run_nil (fun n3 => ?_)
  try simp only [World.drewN_drewN]
  generalize hGe1 : 1 + n' + n3 = Ne1
  clear hGe1
  go_upto_region 5 with fail
  refine Lex3.wp_region_lex [] (fun u => u.cell? ⟨B, 0, none⟩ = some (.slice (some ⟨gP, 0, none⟩) n cP) ∧ u.cell? ⟨t, 2, none⟩ = some (.int .i64 J)) (fun u n h => h) ⟨c0, o2⟩ (by kernel_rfl) (by kernel_rfl) ?_
  refine Lex3.run_free (v := ?_) (by rfl) (by rfl) (fun u => ?_) ?_; rotate_left; (go_simp; try with_reducible rfl); simp only [Act.put, List.setIfInBounds_toArray, List.set_cons_zero, List.set_cons_succ]
  refine Lex3.run_load (v := ?_) (by rfl) (by rfl) (fun u hu => ?_) ?_; rotate_left; (obtain ⟨hu0, hu1⟩ := hu; go_simp; try with_reducible rfl); simp only [Act.put, List.setIfInBounds_toArray, List.set_cons_zero, List.set_cons_succ]
  refine Lex3.run_free (v := ?_) (by rfl) (by rfl) (fun u => ?_) ?_; rotate_left; (go_simp; try with_reducible rfl); simp only [Act.put, List.setIfInBounds_toArray, List.set_cons_zero, List.set_cons_succ]
  refine Lex3.run_free (v := ?_) (by rfl) (by rfl) (fun u => ?_) ?_; rotate_left; (go_simp; try with_reducible rfl); simp only [Act.put, List.setIfInBounds_toArray, List.set_cons_zero, List.set_cons_succ]
  refine Lex3.run_free (v := ?_) (by rfl) (by rfl) (fun u => ?_) ?_; rotate_left; (go_simp; try with_reducible rfl); simp only [Act.put, List.setIfInBounds_toArray, List.set_cons_zero, List.set_cons_succ]
  refine Lex3.run_load (v := ?_) (by rfl) (by rfl) (fun u hu => ?_) ?_; rotate_left; (obtain ⟨hu0, hu1⟩ := hu; go_simp; try with_reducible rfl); simp only [Act.put, List.setIfInBounds_toArray, List.set_cons_zero, List.set_cons_succ]
  refine Lex3.run_free (v := ?_) (by rfl) (by rfl) (fun u => ?_) ?_; rotate_left; (go_simp; try with_reducible rfl); simp only [Act.put, List.setIfInBounds_toArray, List.set_cons_zero, List.set_cons_succ]
  refine Lex3.run_eff (by rfl) (by rfl) (fun n' K' hK => ?_)
  go_simp
  refine (Go.Proofs.Ytlbocfinjlkebaa.Pieces.at_any J n _ (by omega) (by omega)).mono ?_
  rintro e w' ⟨v0, rfl, v1, v2, rfl⟩
  obtain ⟨j, rfl⟩ := Int.eq_ofNat_of_zero_le v1
  have jl : j < n := by omega
  obtain ⟨e2, he2⟩ : ∃ e, es[j]? = some e := ⟨_, List.getElem?_eq_getElem (by omega)⟩
  refine hK _ _ ⟨c0, o2⟩ ?_
  clear hK K' v1 v2
  try simp only [Act.put, List.setIfInBounds_toArray, List.set_cons_zero, List.set_cons_succ]
  refine Lex3.run_free (v := ?_) (by rfl) (by rfl) (fun u => ?_) ?_; rotate_left; (go_simp; try with_reducible rfl); simp only [Act.put, List.setIfInBounds_toArray, List.set_cons_zero, List.set_cons_succ]
  refine Lex3.run_nil (fun n3 => ?_)
  try simp only [World.drewN_drewN]
  generalize hGe2 : Ne1 + 1 + n' + n3 = ND
  clear hGe2
  obtain ⟨bp, gp, cp, bq, gq, cq, W, H, zs, zt, rfl⟩ : ∃ bp gp cp bq gq cq W H zs zs', e1 = ⟨bp, gp, cp, bq, gq, cq, W, H, zs, zs'⟩ := ⟨_, _, _, _, _, _, _, _, _, _, rfl⟩
  obtain rfl : zs = zt := hz _ (List.mem_of_getElem? he1)
  obtain ⟨bp2, gp2, cp2, bq2, gq2, cq2, W2, H2, zs2, zt2, rfl⟩ : ∃ bp gp cp bq gq cq W H zs zs', e2 = ⟨bp, gp, cp, bq, gq, cq, W, H, zs, zs'⟩ := ⟨_, _, _, _, _, _, _, _, _, _, rfl⟩
  obtain rfl : zs2 = zt2 := hz _ (List.mem_of_getElem? he2)
  replace h1 := h1.drewN ND
  replace t1 := t1.drewN ND
  replace b1 := below_drewN b1 ND
  clear o0 o1 o2 c0 o3 o4 o5 o6 o7 o8
  generalize (w1.drewN ND) = w2 at h1 t1 b1 ⊢
  clear f1
  have c0 := h1.p0
  have c1 := h1.p1
  have e1 := h1.cellP hn he1
  have e2 := h1.cellQ hn he1
  have e3 := h1.cellP hn he2
  have e4 := h1.cellQ hn he2
  dsimp only at e1 e2 e3 e4
  obtain ⟨⟨hp, hq⟩, ⟨rr1, rr2, rr3, rr4⟩, _⟩ := h1.ent k _ he1
  obtain ⟨⟨hp2, hq2⟩, ⟨ss1, ss2, ss3, ss4⟩, _⟩ := h1.ent j _ he2
  dsimp only at hp hq hp2 hq2 rr1 rr2 rr3 rr4 ss1 ss2 ss3 ss4
  have o0 : w2.cell? ⟨t, 0, none⟩ = some (.int .i64 4) := by rw [t1.cell]; rfl
  have o1 : w2.cell? ⟨t, 1, none⟩ = some (.int .i64 I) := by rw [t1.cell]; rfl
  have o2 : w2.cell? ⟨t, 2, none⟩ = some (.int .i64 J) := by rw [t1.cell]; rfl
  have o3 : w2.cell? ⟨t, 3, none⟩ = some (.int .i64 a) := by rw [t1.cell]; rfl
  have o4 : w2.cell? ⟨t, 4, none⟩ = some (.int .i64 b) := by rw [t1.cell]; rfl
  have o5 : w2.cell? ⟨t, 5, none⟩ = some (.int .i64 c) := by rw [t1.cell]; rfl
  have o6 : w2.cell? ⟨t, 6, none⟩ = some (.int .i64 d) := by rw [t1.cell]; rfl
  have o7 : w2.cell? ⟨t, 7, none⟩ = some (.int .i64 v) := by rw [t1.cell]; rfl
  have o8 : w2.cell? ⟨t, 8, none⟩ = some (.slice A m mc) := by rw [t1.cell]; rfl
  go_wp2_with fail
  refine (ask_at base B n r1 _ _ es I J a b c d v A m mc w2 h1 hz hn hm k j _ he1).mono ?_
  rintro e w3 ⟨rfl, b3, hf⟩
  go_wp2_with fail
  refine bodyPost_end (results_none rfl _ _ _) rfl ?_
  exact ⟨rfl, b1.trans b3, hf⟩

set_option maxRecDepth 100000 in
set_option maxHeartbeats 16000000 in
theorem one_tile (base B n : Nat) (r : Nat → Nat) (vp vq : Value) (es : List Ent) (I J a b c d v : Int) (A : Option Addr) (m mc : Nat) (w : World) (h : Book base w B r vp vq (es.map pP) (es.map pQ) es) (hz : ∀ e ∈ es, e.zp = e.zq) (hn : es.length = n) (hm : n ≤ 8388608) (h1n : 1 ≤ n) :
    Calls Try.prog 74 #[.pointer (some ⟨B, 0, none⟩), .agg #[.int .i64 5, .int .i64 I, .int .i64 J, .int .i64 a, .int .i64 b, .int .i64 c, .int .i64 d, .int .i64 v, .slice A m mc]] w (Goes base B n w) := by
  have hsee : ∃ gP cP gQ cQ, vp = .slice (some ⟨gP, 0, none⟩) n cP ∧ vq = .slice (some ⟨gQ, 0, none⟩) n cQ := by
    obtain ⟨e, he⟩ : ∃ e, es[0]? = some e := ⟨_, List.getElem?_eq_getElem (by omega)⟩
    obtain ⟨gP, cP, gQ, cQ, q1, q2, _⟩ := h.see n hn he
    exact ⟨gP, cP, gQ, cQ, q1, q2⟩
  obtain ⟨gP, cP, gQ, cQ, rfl, rfl⟩ := hsee
  obtain ⟨r1, h1, f1, hrt, t1, b1⟩ := h.box #[.int .i64 5, .int .i64 I, .int .i64 J, .int .i64 a, .int .i64 b, .int .i64 c, .int .i64 d, .int .i64 v, .slice A m mc] 119
  go_enter Try.func74, Try.ntmps74
  go_upto_region 1 with fail
  generalize (w.alloc (.cells #[.int .i64 5, .int .i64 I, .int .i64 J, .int .i64 a, .int .i64 b, .int .i64 c, .int .i64 d, .int .i64 v, .slice A m mc] 119)) = w1 at h1 f1 t1 b1 ⊢
  generalize w.heap.size = t at hrt t1 ⊢
  have o0 : w1.cell? ⟨t, 0, none⟩ = some (.int .i64 5) := by rw [t1.cell]; rfl
  have o1 : w1.cell? ⟨t, 1, none⟩ = some (.int .i64 I) := by rw [t1.cell]; rfl
  have o2 : w1.cell? ⟨t, 2, none⟩ = some (.int .i64 J) := by rw [t1.cell]; rfl
  have o3 : w1.cell? ⟨t, 3, none⟩ = some (.int .i64 a) := by rw [t1.cell]; rfl
  have o4 : w1.cell? ⟨t, 4, none⟩ = some (.int .i64 b) := by rw [t1.cell]; rfl
  have o5 : w1.cell? ⟨t, 5, none⟩ = some (.int .i64 c) := by rw [t1.cell]; rfl
  have o6 : w1.cell? ⟨t, 6, none⟩ = some (.int .i64 d) := by rw [t1.cell]; rfl
  have o7 : w1.cell? ⟨t, 7, none⟩ = some (.int .i64 v) := by rw [t1.cell]; rfl
  have o8 : w1.cell? ⟨t, 8, none⟩ = some (.slice A m mc) := by rw [t1.cell]; rfl
  have c0 := h1.p0
  have hkn : ((n : Int) == 0) = false := by simp; omega
  go_upto_region 4 with fail
  refine Lex3.wp_region_lex [] (fun u => u.cell? ⟨B, 0, none⟩ = some (.slice (some ⟨gP, 0, none⟩) n cP) ∧ u.cell? ⟨t, 1, none⟩ = some (.int .i64 I)) (fun u n h => h) ⟨c0, o1⟩ (by kernel_rfl) (by kernel_rfl) ?_
  refine Lex3.run_free (v := ?_) (by rfl) (by rfl) (fun u => ?_) ?_; rotate_left; (go_simp; try with_reducible rfl); simp only [Act.put, List.setIfInBounds_toArray, List.set_cons_zero, List.set_cons_succ]
  refine Lex3.run_load (v := ?_) (by rfl) (by rfl) (fun u hu => ?_) ?_; rotate_left; (obtain ⟨hu0, hu1⟩ := hu; go_simp; try with_reducible rfl); simp only [Act.put, List.setIfInBounds_toArray, List.set_cons_zero, List.set_cons_succ]
  refine Lex3.run_free (v := ?_) (by rfl) (by rfl) (fun u => ?_) ?_; rotate_left; (go_simp; try with_reducible rfl); simp only [Act.put, List.setIfInBounds_toArray, List.set_cons_zero, List.set_cons_succ]
  refine Lex3.run_free (v := ?_) (by rfl) (by rfl) (fun u => ?_) ?_; rotate_left; (go_simp; try with_reducible rfl); simp only [Act.put, List.setIfInBounds_toArray, List.set_cons_zero, List.set_cons_succ]
  refine Lex3.run_free (v := ?_) (by rfl) (by rfl) (fun u => ?_) ?_; rotate_left; (go_simp; try with_reducible rfl); simp only [Act.put, List.setIfInBounds_toArray, List.set_cons_zero, List.set_cons_succ]
  refine Lex3.run_load (v := ?_) (by rfl) (by rfl) (fun u hu => ?_) ?_; rotate_left; (obtain ⟨hu0, hu1⟩ := hu; go_simp; try with_reducible rfl); simp only [Act.put, List.setIfInBounds_toArray, List.set_cons_zero, List.set_cons_succ]
  refine Lex3.run_free (v := ?_) (by rfl) (by rfl) (fun u => ?_) ?_; rotate_left; (go_simp; try with_reducible rfl); simp only [Act.put, List.setIfInBounds_toArray, List.set_cons_zero, List.set_cons_succ]
  refine Lex3.run_eff (by rfl) (by rfl) (fun n' K' hK => ?_)
  go_simp
  refine (Go.Proofs.Ytlbocfinjlkebaa.Pieces.at_any I n _ (by omega) (by omega)).mono ?_
  rintro e w' ⟨v0, rfl, v1, v2, rfl⟩
  obtain ⟨k, rfl⟩ := Int.eq_ofNat_of_zero_le v1
  have kl : k < n := by omega
  obtain ⟨e1, he1⟩ : ∃ e, es[k]? = some e := ⟨_, List.getElem?_eq_getElem (by omega)⟩
  refine hK _ _ ⟨c0, o1⟩ ?_
  clear hK K' v1 v2
  try simp only [Act.put, List.setIfInBounds_toArray, List.set_cons_zero, List.set_cons_succ]
  refine Lex3.run_free (v := ?_) (by rfl) (by rfl) (fun u => ?_) ?_; rotate_left; (go_simp; try with_reducible rfl); simp only [Act.put, List.setIfInBounds_toArray, List.set_cons_zero, List.set_cons_succ]
  refine Lex3.run_nil (fun n3 => ?_)
  try simp only [World.drewN_drewN]
  generalize hGe1 : 1 + n' + n3 = Ne1
  clear hGe1
  go_upto_region 5 with fail
  refine Lex3.wp_region_lex [] (fun u => u.cell? ⟨B, 0, none⟩ = some (.slice (some ⟨gP, 0, none⟩) n cP) ∧ u.cell? ⟨t, 2, none⟩ = some (.int .i64 J)) (fun u n h => h) ⟨c0, o2⟩ (by kernel_rfl) (by kernel_rfl) ?_
  refine Lex3.run_free (v := ?_) (by rfl) (by rfl) (fun u => ?_) ?_; rotate_left; (go_simp; try with_reducible rfl); simp only [Act.put, List.setIfInBounds_toArray, List.set_cons_zero, List.set_cons_succ]
  refine Lex3.run_load (v := ?_) (by rfl) (by rfl) (fun u hu => ?_) ?_; rotate_left; (obtain ⟨hu0, hu1⟩ := hu; go_simp; try with_reducible rfl); simp only [Act.put, List.setIfInBounds_toArray, List.set_cons_zero, List.set_cons_succ]
  refine Lex3.run_free (v := ?_) (by rfl) (by rfl) (fun u => ?_) ?_; rotate_left; (go_simp; try with_reducible rfl); simp only [Act.put, List.setIfInBounds_toArray, List.set_cons_zero, List.set_cons_succ]
  refine Lex3.run_free (v := ?_) (by rfl) (by rfl) (fun u => ?_) ?_; rotate_left; (go_simp; try with_reducible rfl); simp only [Act.put, List.setIfInBounds_toArray, List.set_cons_zero, List.set_cons_succ]
  refine Lex3.run_free (v := ?_) (by rfl) (by rfl) (fun u => ?_) ?_; rotate_left; (go_simp; try with_reducible rfl); simp only [Act.put, List.setIfInBounds_toArray, List.set_cons_zero, List.set_cons_succ]
  refine Lex3.run_load (v := ?_) (by rfl) (by rfl) (fun u hu => ?_) ?_; rotate_left; (obtain ⟨hu0, hu1⟩ := hu; go_simp; try with_reducible rfl); simp only [Act.put, List.setIfInBounds_toArray, List.set_cons_zero, List.set_cons_succ]
  refine Lex3.run_free (v := ?_) (by rfl) (by rfl) (fun u => ?_) ?_; rotate_left; (go_simp; try with_reducible rfl); simp only [Act.put, List.setIfInBounds_toArray, List.set_cons_zero, List.set_cons_succ]
  refine Lex3.run_eff (by rfl) (by rfl) (fun n' K' hK => ?_)
  go_simp
  refine (Go.Proofs.Ytlbocfinjlkebaa.Pieces.at_any J n _ (by omega) (by omega)).mono ?_
  rintro e w' ⟨v0, rfl, v1, v2, rfl⟩
  obtain ⟨j, rfl⟩ := Int.eq_ofNat_of_zero_le v1
  have jl : j < n := by omega
  obtain ⟨e2, he2⟩ : ∃ e, es[j]? = some e := ⟨_, List.getElem?_eq_getElem (by omega)⟩
  refine hK _ _ ⟨c0, o2⟩ ?_
  clear hK K' v1 v2
  try simp only [Act.put, List.setIfInBounds_toArray, List.set_cons_zero, List.set_cons_succ]
  refine Lex3.run_free (v := ?_) (by rfl) (by rfl) (fun u => ?_) ?_; rotate_left; (go_simp; try with_reducible rfl); simp only [Act.put, List.setIfInBounds_toArray, List.set_cons_zero, List.set_cons_succ]
  refine Lex3.run_nil (fun n3 => ?_)
  try simp only [World.drewN_drewN]
  generalize hGe2 : Ne1 + 1 + n' + n3 = ND
  clear hGe2
  obtain ⟨bp, gp, cp, bq, gq, cq, W, H, zs, zt, rfl⟩ : ∃ bp gp cp bq gq cq W H zs zs', e1 = ⟨bp, gp, cp, bq, gq, cq, W, H, zs, zs'⟩ := ⟨_, _, _, _, _, _, _, _, _, _, rfl⟩
  obtain rfl : zs = zt := hz _ (List.mem_of_getElem? he1)
  obtain ⟨bp2, gp2, cp2, bq2, gq2, cq2, W2, H2, zs2, zt2, rfl⟩ : ∃ bp gp cp bq gq cq W H zs zs', e2 = ⟨bp, gp, cp, bq, gq, cq, W, H, zs, zs'⟩ := ⟨_, _, _, _, _, _, _, _, _, _, rfl⟩
  obtain rfl : zs2 = zt2 := hz _ (List.mem_of_getElem? he2)
  replace h1 := h1.drewN ND
  replace t1 := t1.drewN ND
  replace b1 := below_drewN b1 ND
  clear o0 o1 o2 c0 o3 o4 o5 o6 o7 o8
  generalize (w1.drewN ND) = w2 at h1 t1 b1 ⊢
  clear f1
  have c0 := h1.p0
  have c1 := h1.p1
  have e1 := h1.cellP hn he1
  have e2 := h1.cellQ hn he1
  have e3 := h1.cellP hn he2
  have e4 := h1.cellQ hn he2
  dsimp only at e1 e2 e3 e4
  obtain ⟨⟨hp, hq⟩, ⟨rr1, rr2, rr3, rr4⟩, _⟩ := h1.ent k _ he1
  obtain ⟨⟨hp2, hq2⟩, ⟨ss1, ss2, ss3, ss4⟩, _⟩ := h1.ent j _ he2
  dsimp only at hp hq hp2 hq2 rr1 rr2 rr3 rr4 ss1 ss2 ss3 ss4
  have o0 : w2.cell? ⟨t, 0, none⟩ = some (.int .i64 5) := by rw [t1.cell]; rfl
  have o1 : w2.cell? ⟨t, 1, none⟩ = some (.int .i64 I) := by rw [t1.cell]; rfl
  have o2 : w2.cell? ⟨t, 2, none⟩ = some (.int .i64 J) := by rw [t1.cell]; rfl
  have o3 : w2.cell? ⟨t, 3, none⟩ = some (.int .i64 a) := by rw [t1.cell]; rfl
  have o4 : w2.cell? ⟨t, 4, none⟩ = some (.int .i64 b) := by rw [t1.cell]; rfl
  have o5 : w2.cell? ⟨t, 5, none⟩ = some (.int .i64 c) := by rw [t1.cell]; rfl
  have o6 : w2.cell? ⟨t, 6, none⟩ = some (.int .i64 d) := by rw [t1.cell]; rfl
  have o7 : w2.cell? ⟨t, 7, none⟩ = some (.int .i64 v) := by rw [t1.cell]; rfl
  have o8 : w2.cell? ⟨t, 8, none⟩ = some (.slice A m mc) := by rw [t1.cell]; rfl
  go_wp2_with fail
  refine (ask_tile base B n r1 _ _ es I J a b c d v A m mc w2 h1 hz hn hm k j _ he1).mono ?_
  rintro e w3 ⟨rfl, b3, hf⟩
  go_wp2_with fail
  refine bodyPost_end (results_none rfl _ _ _) rfl ?_
  exact ⟨rfl, b1.trans b3, hf⟩

set_option maxRecDepth 100000 in
set_option maxHeartbeats 16000000 in
theorem one_same (base B n : Nat) (r : Nat → Nat) (vp vq : Value) (es : List Ent) (I J a b c d v : Int) (A : Option Addr) (m mc : Nat) (w : World) (h : Book base w B r vp vq (es.map pP) (es.map pQ) es) (hz : ∀ e ∈ es, e.zp = e.zq) (hn : es.length = n) (hm : n ≤ 8388608) (h1n : 1 ≤ n) :
    Calls Try.prog 74 #[.pointer (some ⟨B, 0, none⟩), .agg #[.int .i64 8, .int .i64 I, .int .i64 J, .int .i64 a, .int .i64 b, .int .i64 c, .int .i64 d, .int .i64 v, .slice A m mc]] w (Goes base B n w) := by
  have hsee : ∃ gP cP gQ cQ, vp = .slice (some ⟨gP, 0, none⟩) n cP ∧ vq = .slice (some ⟨gQ, 0, none⟩) n cQ := by
    obtain ⟨e, he⟩ : ∃ e, es[0]? = some e := ⟨_, List.getElem?_eq_getElem (by omega)⟩
    obtain ⟨gP, cP, gQ, cQ, q1, q2, _⟩ := h.see n hn he
    exact ⟨gP, cP, gQ, cQ, q1, q2⟩
  obtain ⟨gP, cP, gQ, cQ, rfl, rfl⟩ := hsee
  obtain ⟨r1, h1, f1, hrt, t1, b1⟩ := h.box #[.int .i64 8, .int .i64 I, .int .i64 J, .int .i64 a, .int .i64 b, .int .i64 c, .int .i64 d, .int .i64 v, .slice A m mc] 119
  go_enter Try.func74, Try.ntmps74
  go_upto_region 1 with fail
  generalize (w.alloc (.cells #[.int .i64 8, .int .i64 I, .int .i64 J, .int .i64 a, .int .i64 b, .int .i64 c, .int .i64 d, .int .i64 v, .slice A m mc] 119)) = w1 at h1 f1 t1 b1 ⊢
  generalize w.heap.size = t at hrt t1 ⊢
  have o0 : w1.cell? ⟨t, 0, none⟩ = some (.int .i64 8) := by rw [t1.cell]; rfl
  have o1 : w1.cell? ⟨t, 1, none⟩ = some (.int .i64 I) := by rw [t1.cell]; rfl
  have o2 : w1.cell? ⟨t, 2, none⟩ = some (.int .i64 J) := by rw [t1.cell]; rfl
  have o3 : w1.cell? ⟨t, 3, none⟩ = some (.int .i64 a) := by rw [t1.cell]; rfl
  have o4 : w1.cell? ⟨t, 4, none⟩ = some (.int .i64 b) := by rw [t1.cell]; rfl
  have o5 : w1.cell? ⟨t, 5, none⟩ = some (.int .i64 c) := by rw [t1.cell]; rfl
  have o6 : w1.cell? ⟨t, 6, none⟩ = some (.int .i64 d) := by rw [t1.cell]; rfl
  have o7 : w1.cell? ⟨t, 7, none⟩ = some (.int .i64 v) := by rw [t1.cell]; rfl
  have o8 : w1.cell? ⟨t, 8, none⟩ = some (.slice A m mc) := by rw [t1.cell]; rfl
  have c0 := h1.p0
  have hkn : ((n : Int) == 0) = false := by simp; omega
  go_upto_region 4 with fail
  refine Lex3.wp_region_lex [] (fun u => u.cell? ⟨B, 0, none⟩ = some (.slice (some ⟨gP, 0, none⟩) n cP) ∧ u.cell? ⟨t, 1, none⟩ = some (.int .i64 I)) (fun u n h => h) ⟨c0, o1⟩ (by kernel_rfl) (by kernel_rfl) ?_
  refine Lex3.run_free (v := ?_) (by rfl) (by rfl) (fun u => ?_) ?_; rotate_left; (go_simp; try with_reducible rfl); simp only [Act.put, List.setIfInBounds_toArray, List.set_cons_zero, List.set_cons_succ]
  refine Lex3.run_load (v := ?_) (by rfl) (by rfl) (fun u hu => ?_) ?_; rotate_left; (obtain ⟨hu0, hu1⟩ := hu; go_simp; try with_reducible rfl); simp only [Act.put, List.setIfInBounds_toArray, List.set_cons_zero, List.set_cons_succ]
  refine Lex3.run_free (v := ?_) (by rfl) (by rfl) (fun u => ?_) ?_; rotate_left; (go_simp; try with_reducible rfl); simp only [Act.put, List.setIfInBounds_toArray, List.set_cons_zero, List.set_cons_succ]
  refine Lex3.run_free (v := ?_) (by rfl) (by rfl) (fun u => ?_) ?_; rotate_left; (go_simp; try with_reducible rfl); simp only [Act.put, List.setIfInBounds_toArray, List.set_cons_zero, List.set_cons_succ]
  refine Lex3.run_free (v := ?_) (by rfl) (by rfl) (fun u => ?_) ?_; rotate_left; (go_simp; try with_reducible rfl); simp only [Act.put, List.setIfInBounds_toArray, List.set_cons_zero, List.set_cons_succ]
  refine Lex3.run_load (v := ?_) (by rfl) (by rfl) (fun u hu => ?_) ?_; rotate_left; (obtain ⟨hu0, hu1⟩ := hu; go_simp; try with_reducible rfl); simp only [Act.put, List.setIfInBounds_toArray, List.set_cons_zero, List.set_cons_succ]
  refine Lex3.run_free (v := ?_) (by rfl) (by rfl) (fun u => ?_) ?_; rotate_left; (go_simp; try with_reducible rfl); simp only [Act.put, List.setIfInBounds_toArray, List.set_cons_zero, List.set_cons_succ]
  refine Lex3.run_eff (by rfl) (by rfl) (fun n' K' hK => ?_)
  go_simp
  refine (Go.Proofs.Ytlbocfinjlkebaa.Pieces.at_any I n _ (by omega) (by omega)).mono ?_
  rintro e w' ⟨v0, rfl, v1, v2, rfl⟩
  obtain ⟨k, rfl⟩ := Int.eq_ofNat_of_zero_le v1
  have kl : k < n := by omega
  obtain ⟨e1, he1⟩ : ∃ e, es[k]? = some e := ⟨_, List.getElem?_eq_getElem (by omega)⟩
  refine hK _ _ ⟨c0, o1⟩ ?_
  clear hK K' v1 v2
  try simp only [Act.put, List.setIfInBounds_toArray, List.set_cons_zero, List.set_cons_succ]
  refine Lex3.run_free (v := ?_) (by rfl) (by rfl) (fun u => ?_) ?_; rotate_left; (go_simp; try with_reducible rfl); simp only [Act.put, List.setIfInBounds_toArray, List.set_cons_zero, List.set_cons_succ]
  refine Lex3.run_nil (fun n3 => ?_)
  try simp only [World.drewN_drewN]
  generalize hGe1 : 1 + n' + n3 = Ne1
  clear hGe1
  go_upto_region 5 with fail
  refine Lex3.wp_region_lex [] (fun u => u.cell? ⟨B, 0, none⟩ = some (.slice (some ⟨gP, 0, none⟩) n cP) ∧ u.cell? ⟨t, 2, none⟩ = some (.int .i64 J)) (fun u n h => h) ⟨c0, o2⟩ (by kernel_rfl) (by kernel_rfl) ?_
  refine Lex3.run_free (v := ?_) (by rfl) (by rfl) (fun u => ?_) ?_; rotate_left; (go_simp; try with_reducible rfl); simp only [Act.put, List.setIfInBounds_toArray, List.set_cons_zero, List.set_cons_succ]
  refine Lex3.run_load (v := ?_) (by rfl) (by rfl) (fun u hu => ?_) ?_; rotate_left; (obtain ⟨hu0, hu1⟩ := hu; go_simp; try with_reducible rfl); simp only [Act.put, List.setIfInBounds_toArray, List.set_cons_zero, List.set_cons_succ]
  refine Lex3.run_free (v := ?_) (by rfl) (by rfl) (fun u => ?_) ?_; rotate_left; (go_simp; try with_reducible rfl); simp only [Act.put, List.setIfInBounds_toArray, List.set_cons_zero, List.set_cons_succ]
  refine Lex3.run_free (v := ?_) (by rfl) (by rfl) (fun u => ?_) ?_; rotate_left; (go_simp; try with_reducible rfl); simp only [Act.put, List.setIfInBounds_toArray, List.set_cons_zero, List.set_cons_succ]
  refine Lex3.run_free (v := ?_) (by rfl) (by rfl) (fun u => ?_) ?_; rotate_left; (go_simp; try with_reducible rfl); simp only [Act.put, List.setIfInBounds_toArray, List.set_cons_zero, List.set_cons_succ]
  refine Lex3.run_load (v := ?_) (by rfl) (by rfl) (fun u hu => ?_) ?_; rotate_left; (obtain ⟨hu0, hu1⟩ := hu; go_simp; try with_reducible rfl); simp only [Act.put, List.setIfInBounds_toArray, List.set_cons_zero, List.set_cons_succ]
  refine Lex3.run_free (v := ?_) (by rfl) (by rfl) (fun u => ?_) ?_; rotate_left; (go_simp; try with_reducible rfl); simp only [Act.put, List.setIfInBounds_toArray, List.set_cons_zero, List.set_cons_succ]
  refine Lex3.run_eff (by rfl) (by rfl) (fun n' K' hK => ?_)
  go_simp
  refine (Go.Proofs.Ytlbocfinjlkebaa.Pieces.at_any J n _ (by omega) (by omega)).mono ?_
  rintro e w' ⟨v0, rfl, v1, v2, rfl⟩
  obtain ⟨j, rfl⟩ := Int.eq_ofNat_of_zero_le v1
  have jl : j < n := by omega
  obtain ⟨e2, he2⟩ : ∃ e, es[j]? = some e := ⟨_, List.getElem?_eq_getElem (by omega)⟩
  refine hK _ _ ⟨c0, o2⟩ ?_
  clear hK K' v1 v2
  try simp only [Act.put, List.setIfInBounds_toArray, List.set_cons_zero, List.set_cons_succ]
  refine Lex3.run_free (v := ?_) (by rfl) (by rfl) (fun u => ?_) ?_; rotate_left; (go_simp; try with_reducible rfl); simp only [Act.put, List.setIfInBounds_toArray, List.set_cons_zero, List.set_cons_succ]
  refine Lex3.run_nil (fun n3 => ?_)
  try simp only [World.drewN_drewN]
  generalize hGe2 : Ne1 + 1 + n' + n3 = ND
  clear hGe2
  obtain ⟨bp, gp, cp, bq, gq, cq, W, H, zs, zt, rfl⟩ : ∃ bp gp cp bq gq cq W H zs zs', e1 = ⟨bp, gp, cp, bq, gq, cq, W, H, zs, zs'⟩ := ⟨_, _, _, _, _, _, _, _, _, _, rfl⟩
  obtain rfl : zs = zt := hz _ (List.mem_of_getElem? he1)
  obtain ⟨bp2, gp2, cp2, bq2, gq2, cq2, W2, H2, zs2, zt2, rfl⟩ : ∃ bp gp cp bq gq cq W H zs zs', e2 = ⟨bp, gp, cp, bq, gq, cq, W, H, zs, zs'⟩ := ⟨_, _, _, _, _, _, _, _, _, _, rfl⟩
  obtain rfl : zs2 = zt2 := hz _ (List.mem_of_getElem? he2)
  replace h1 := h1.drewN ND
  replace t1 := t1.drewN ND
  replace b1 := below_drewN b1 ND
  clear o0 o1 o2 c0 o3 o4 o5 o6 o7 o8
  generalize (w1.drewN ND) = w2 at h1 t1 b1 ⊢
  clear f1
  have c0 := h1.p0
  have c1 := h1.p1
  have e1 := h1.cellP hn he1
  have e2 := h1.cellQ hn he1
  have e3 := h1.cellP hn he2
  have e4 := h1.cellQ hn he2
  dsimp only at e1 e2 e3 e4
  obtain ⟨⟨hp, hq⟩, ⟨rr1, rr2, rr3, rr4⟩, _⟩ := h1.ent k _ he1
  obtain ⟨⟨hp2, hq2⟩, ⟨ss1, ss2, ss3, ss4⟩, _⟩ := h1.ent j _ he2
  dsimp only at hp hq hp2 hq2 rr1 rr2 rr3 rr4 ss1 ss2 ss3 ss4
  have o0 : w2.cell? ⟨t, 0, none⟩ = some (.int .i64 8) := by rw [t1.cell]; rfl
  have o1 : w2.cell? ⟨t, 1, none⟩ = some (.int .i64 I) := by rw [t1.cell]; rfl
  have o2 : w2.cell? ⟨t, 2, none⟩ = some (.int .i64 J) := by rw [t1.cell]; rfl
  have o3 : w2.cell? ⟨t, 3, none⟩ = some (.int .i64 a) := by rw [t1.cell]; rfl
  have o4 : w2.cell? ⟨t, 4, none⟩ = some (.int .i64 b) := by rw [t1.cell]; rfl
  have o5 : w2.cell? ⟨t, 5, none⟩ = some (.int .i64 c) := by rw [t1.cell]; rfl
  have o6 : w2.cell? ⟨t, 6, none⟩ = some (.int .i64 d) := by rw [t1.cell]; rfl
  have o7 : w2.cell? ⟨t, 7, none⟩ = some (.int .i64 v) := by rw [t1.cell]; rfl
  have o8 : w2.cell? ⟨t, 8, none⟩ = some (.slice A m mc) := by rw [t1.cell]; rfl
  go_wp2_with fail
  refine (ask_same base B n r1 _ _ es I J a b c d v A m mc w2 h1 hz hn hm k j _ he1 _ he2).mono ?_
  rintro e w3 ⟨rfl, b3, hf⟩
  go_wp2_with fail
  refine bodyPost_end (results_none rfl _ _ _) rfl ?_
  exact ⟨rfl, b1.trans b3, hf⟩

set_option maxRecDepth 100000 in
set_option maxHeartbeats 16000000 in
theorem one_ends (base B n : Nat) (r : Nat → Nat) (vp vq : Value) (es : List Ent) (I J a b c d v : Int) (A : Option Addr) (m mc : Nat) (w : World) (h : Book base w B r vp vq (es.map pP) (es.map pQ) es) (hz : ∀ e ∈ es, e.zp = e.zq) (hn : es.length = n) (hm : n ≤ 8388608) (h1n : 1 ≤ n) :
    Calls Try.prog 74 #[.pointer (some ⟨B, 0, none⟩), .agg #[.int .i64 9, .int .i64 I, .int .i64 J, .int .i64 a, .int .i64 b, .int .i64 c, .int .i64 d, .int .i64 v, .slice A m mc]] w (Goes base B n w) := by
  have hsee : ∃ gP cP gQ cQ, vp = .slice (some ⟨gP, 0, none⟩) n cP ∧ vq = .slice (some ⟨gQ, 0, none⟩) n cQ := by
    obtain ⟨e, he⟩ : ∃ e, es[0]? = some e := ⟨_, List.getElem?_eq_getElem (by omega)⟩
    obtain ⟨gP, cP, gQ, cQ, q1, q2, _⟩ := h.see n hn he
    exact ⟨gP, cP, gQ, cQ, q1, q2⟩
  obtain ⟨gP, cP, gQ, cQ, rfl, rfl⟩ := hsee
  obtain ⟨r1, h1, f1, hrt, t1, b1⟩ := h.box #[.int .i64 9, .int .i64 I, .int .i64 J, .int .i64 a, .int .i64 b, .int .i64 c, .int .i64 d, .int .i64 v, .slice A m mc] 119
  go_enter Try.func74, Try.ntmps74
  go_upto_region 1 with fail
  generalize (w.alloc (.cells #[.int .i64 9, .int .i64 I, .int .i64 J, .int .i64 a, .int .i64 b, .int .i64 c, .int .i64 d, .int .i64 v, .slice A m mc] 119)) = w1 at h1 f1 t1 b1 ⊢
  generalize w.heap.size = t at hrt t1 ⊢
  have o0 : w1.cell? ⟨t, 0, none⟩ = some (.int .i64 9) := by rw [t1.cell]; rfl
  have o1 : w1.cell? ⟨t, 1, none⟩ = some (.int .i64 I) := by rw [t1.cell]; rfl
  have o2 : w1.cell? ⟨t, 2, none⟩ = some (.int .i64 J) := by rw [t1.cell]; rfl
  have o3 : w1.cell? ⟨t, 3, none⟩ = some (.int .i64 a) := by rw [t1.cell]; rfl
  have o4 : w1.cell? ⟨t, 4, none⟩ = some (.int .i64 b) := by rw [t1.cell]; rfl
  have o5 : w1.cell? ⟨t, 5, none⟩ = some (.int .i64 c) := by rw [t1.cell]; rfl
  have o6 : w1.cell? ⟨t, 6, none⟩ = some (.int .i64 d) := by rw [t1.cell]; rfl
  have o7 : w1.cell? ⟨t, 7, none⟩ = some (.int .i64 v) := by rw [t1.cell]; rfl
  have o8 : w1.cell? ⟨t, 8, none⟩ = some (.slice A m mc) := by rw [t1.cell]; rfl
  have c0 := h1.p0
  have hkn : ((n : Int) == 0) = false := by simp; omega
  go_upto_region 4 with fail
  refine Lex3.wp_region_lex [] (fun u => u.cell? ⟨B, 0, none⟩ = some (.slice (some ⟨gP, 0, none⟩) n cP) ∧ u.cell? ⟨t, 1, none⟩ = some (.int .i64 I)) (fun u n h => h) ⟨c0, o1⟩ (by kernel_rfl) (by kernel_rfl) ?_
  refine Lex3.run_free (v := ?_) (by rfl) (by rfl) (fun u => ?_) ?_; rotate_left; (go_simp; try with_reducible rfl); simp only [Act.put, List.setIfInBounds_toArray, List.set_cons_zero, List.set_cons_succ]
  refine Lex3.run_load (v := ?_) (by rfl) (by rfl) (fun u hu => ?_) ?_; rotate_left; (obtain ⟨hu0, hu1⟩ := hu; go_simp; try with_reducible rfl); simp only [Act.put, List.setIfInBounds_toArray, List.set_cons_zero, List.set_cons_succ]
  refine Lex3.run_free (v := ?_) (by rfl) (by rfl) (fun u => ?_) ?_; rotate_left; (go_simp; try with_reducible rfl); simp only [Act.put, List.setIfInBounds_toArray, List.set_cons_zero, List.set_cons_succ]
  refine Lex3.run_free (v := ?_) (by rfl) (by rfl) (fun u => ?_) ?_; rotate_left; (go_simp; try with_reducible rfl); simp only [Act.put, List.setIfInBounds_toArray, List.set_cons_zero, List.set_cons_succ]
  refine Lex3.run_free (v := ?_) (by rfl) (by rfl) (fun u => ?_) ?_; rotate_left; (go_simp; try with_reducible rfl); simp only [Act.put, List.setIfInBounds_toArray, List.set_cons_zero, List.set_cons_succ]
  refine Lex3.run_load (v := ?_) (by rfl) (by rfl) (fun u hu => ?_) ?_; rotate_left; (obtain ⟨hu0, hu1⟩ := hu; go_simp; try with_reducible rfl); simp only [Act.put, List.setIfInBounds_toArray, List.set_cons_zero, List.set_cons_succ]
  refine Lex3.run_free (v := ?_) (by rfl) (by rfl) (fun u => ?_) ?_; rotate_left; (go_simp; try with_reducible rfl); simp only [Act.put, List.setIfInBounds_toArray, List.set_cons_zero, List.set_cons_succ]
  refine Lex3.run_eff (by rfl) (by rfl) (fun n' K' hK => ?_)
  go_simp
  refine (Go.Proofs.Ytlbocfinjlkebaa.Pieces.at_any I n _ (by omega) (by omega)).mono ?_
  rintro e w' ⟨v0, rfl, v1, v2, rfl⟩
  obtain ⟨k, rfl⟩ := Int.eq_ofNat_of_zero_le v1
  have kl : k < n := by omega
  obtain ⟨e1, he1⟩ : ∃ e, es[k]? = some e := ⟨_, List.getElem?_eq_getElem (by omega)⟩
  refine hK _ _ ⟨c0, o1⟩ ?_
  clear hK K' v1 v2
  try simp only [Act.put, List.setIfInBounds_toArray, List.set_cons_zero, List.set_cons_succ]
  refine Lex3.run_free (v := ?_) (by rfl) (by rfl) (fun u => ?_) ?_; rotate_left; (go_simp; try with_reducible rfl); simp only [Act.put, List.setIfInBounds_toArray, List.set_cons_zero, List.set_cons_succ]
  refine Lex3.run_nil (fun n3 => ?_)
  try simp only [World.drewN_drewN]
  generalize hGe1 : 1 + n' + n3 = Ne1
  clear hGe1
  go_upto_region 5 with fail
  refine Lex3.wp_region_lex [] (fun u => u.cell? ⟨B, 0, none⟩ = some (.slice (some ⟨gP, 0, none⟩) n cP) ∧ u.cell? ⟨t, 2, none⟩ = some (.int .i64 J)) (fun u n h => h) ⟨c0, o2⟩ (by kernel_rfl) (by kernel_rfl) ?_
  refine Lex3.run_free (v := ?_) (by rfl) (by rfl) (fun u => ?_) ?_; rotate_left; (go_simp; try with_reducible rfl); simp only [Act.put, List.setIfInBounds_toArray, List.set_cons_zero, List.set_cons_succ]
  refine Lex3.run_load (v := ?_) (by rfl) (by rfl) (fun u hu => ?_) ?_; rotate_left; (obtain ⟨hu0, hu1⟩ := hu; go_simp; try with_reducible rfl); simp only [Act.put, List.setIfInBounds_toArray, List.set_cons_zero, List.set_cons_succ]
  refine Lex3.run_free (v := ?_) (by rfl) (by rfl) (fun u => ?_) ?_; rotate_left; (go_simp; try with_reducible rfl); simp only [Act.put, List.setIfInBounds_toArray, List.set_cons_zero, List.set_cons_succ]
  refine Lex3.run_free (v := ?_) (by rfl) (by rfl) (fun u => ?_) ?_; rotate_left; (go_simp; try with_reducible rfl); simp only [Act.put, List.setIfInBounds_toArray, List.set_cons_zero, List.set_cons_succ]
  refine Lex3.run_free (v := ?_) (by rfl) (by rfl) (fun u => ?_) ?_; rotate_left; (go_simp; try with_reducible rfl); simp only [Act.put, List.setIfInBounds_toArray, List.set_cons_zero, List.set_cons_succ]
  refine Lex3.run_load (v := ?_) (by rfl) (by rfl) (fun u hu => ?_) ?_; rotate_left; (obtain ⟨hu0, hu1⟩ := hu; go_simp; try with_reducible rfl); simp only [Act.put, List.setIfInBounds_toArray, List.set_cons_zero, List.set_cons_succ]
  refine Lex3.run_free (v := ?_) (by rfl) (by rfl) (fun u => ?_) ?_; rotate_left; (go_simp; try with_reducible rfl); simp only [Act.put, List.setIfInBounds_toArray, List.set_cons_zero, List.set_cons_succ]
  refine Lex3.run_eff (by rfl) (by rfl) (fun n' K' hK => ?_)
  go_simp
  refine (Go.Proofs.Ytlbocfinjlkebaa.Pieces.at_any J n _ (by omega) (by omega)).mono ?_
  rintro e w' ⟨v0, rfl, v1, v2, rfl⟩
  obtain ⟨j, rfl⟩ := Int.eq_ofNat_of_zero_le v1
  have jl : j < n := by omega
  obtain ⟨e2, he2⟩ : ∃ e, es[j]? = some e := ⟨_, List.getElem?_eq_getElem (by omega)⟩
  refine hK _ _ ⟨c0, o2⟩ ?_
  clear hK K' v1 v2
  try simp only [Act.put, List.setIfInBounds_toArray, List.set_cons_zero, List.set_cons_succ]
  refine Lex3.run_free (v := ?_) (by rfl) (by rfl) (fun u => ?_) ?_; rotate_left; (go_simp; try with_reducible rfl); simp only [Act.put, List.setIfInBounds_toArray, List.set_cons_zero, List.set_cons_succ]
  refine Lex3.run_nil (fun n3 => ?_)
  try simp only [World.drewN_drewN]
  generalize hGe2 : Ne1 + 1 + n' + n3 = ND
  clear hGe2
  obtain ⟨bp, gp, cp, bq, gq, cq, W, H, zs, zt, rfl⟩ : ∃ bp gp cp bq gq cq W H zs zs', e1 = ⟨bp, gp, cp, bq, gq, cq, W, H, zs, zs'⟩ := ⟨_, _, _, _, _, _, _, _, _, _, rfl⟩
  obtain rfl : zs = zt := hz _ (List.mem_of_getElem? he1)
  obtain ⟨bp2, gp2, cp2, bq2, gq2, cq2, W2, H2, zs2, zt2, rfl⟩ : ∃ bp gp cp bq gq cq W H zs zs', e2 = ⟨bp, gp, cp, bq, gq, cq, W, H, zs, zs'⟩ := ⟨_, _, _, _, _, _, _, _, _, _, rfl⟩
  obtain rfl : zs2 = zt2 := hz _ (List.mem_of_getElem? he2)
  replace h1 := h1.drewN ND
  replace t1 := t1.drewN ND
  replace b1 := below_drewN b1 ND
  clear o0 o1 o2 c0 o3 o4 o5 o6 o7 o8
  generalize (w1.drewN ND) = w2 at h1 t1 b1 ⊢
  clear f1
  have c0 := h1.p0
  have c1 := h1.p1
  have e1 := h1.cellP hn he1
  have e2 := h1.cellQ hn he1
  have e3 := h1.cellP hn he2
  have e4 := h1.cellQ hn he2
  dsimp only at e1 e2 e3 e4
  obtain ⟨⟨hp, hq⟩, ⟨rr1, rr2, rr3, rr4⟩, _⟩ := h1.ent k _ he1
  obtain ⟨⟨hp2, hq2⟩, ⟨ss1, ss2, ss3, ss4⟩, _⟩ := h1.ent j _ he2
  dsimp only at hp hq hp2 hq2 rr1 rr2 rr3 rr4 ss1 ss2 ss3 ss4
  have o0 : w2.cell? ⟨t, 0, none⟩ = some (.int .i64 9) := by rw [t1.cell]; rfl
  have o1 : w2.cell? ⟨t, 1, none⟩ = some (.int .i64 I) := by rw [t1.cell]; rfl
  have o2 : w2.cell? ⟨t, 2, none⟩ = some (.int .i64 J) := by rw [t1.cell]; rfl
  have o3 : w2.cell? ⟨t, 3, none⟩ = some (.int .i64 a) := by rw [t1.cell]; rfl
  have o4 : w2.cell? ⟨t, 4, none⟩ = some (.int .i64 b) := by rw [t1.cell]; rfl
  have o5 : w2.cell? ⟨t, 5, none⟩ = some (.int .i64 c) := by rw [t1.cell]; rfl
  have o6 : w2.cell? ⟨t, 6, none⟩ = some (.int .i64 d) := by rw [t1.cell]; rfl
  have o7 : w2.cell? ⟨t, 7, none⟩ = some (.int .i64 v) := by rw [t1.cell]; rfl
  have o8 : w2.cell? ⟨t, 8, none⟩ = some (.slice A m mc) := by rw [t1.cell]; rfl
  go_wp2_with fail
  refine (ask_ends base B n r1 _ _ es I J a b c d v A m mc w2 h1 hz hn hm k j _ he1).mono ?_
  rintro e w3 ⟨rfl, b3, hf⟩
  go_wp2_with fail
  refine bodyPost_end (results_none rfl _ _ _) rfl ?_
  exact ⟨rfl, b1.trans b3, hf⟩

set_option maxRecDepth 100000 in
set_option maxHeartbeats 16000000 in
theorem one_pix (base B n : Nat) (r : Nat → Nat) (vp vq : Value) (es : List Ent) (I J a b c d v : Int) (A : Option Addr) (m mc : Nat) (w : World) (h : Book base w B r vp vq (es.map pP) (es.map pQ) es) (hz : ∀ e ∈ es, e.zp = e.zq) (hn : es.length = n) (hm : n ≤ 8388608) (h1n : 1 ≤ n) :
    Calls Try.prog 74 #[.pointer (some ⟨B, 0, none⟩), .agg #[.int .i64 10, .int .i64 I, .int .i64 J, .int .i64 a, .int .i64 b, .int .i64 c, .int .i64 d, .int .i64 v, .slice A m mc]] w (Goes base B n w) := by
  have hsee : ∃ gP cP gQ cQ, vp = .slice (some ⟨gP, 0, none⟩) n cP ∧ vq = .slice (some ⟨gQ, 0, none⟩) n cQ := by
    obtain ⟨e, he⟩ : ∃ e, es[0]? = some e := ⟨_, List.getElem?_eq_getElem (by omega)⟩
    obtain ⟨gP, cP, gQ, cQ, q1, q2, _⟩ := h.see n hn he
    exact ⟨gP, cP, gQ, cQ, q1, q2⟩
  obtain ⟨gP, cP, gQ, cQ, rfl, rfl⟩ := hsee
  obtain ⟨r1, h1, f1, hrt, t1, b1⟩ := h.box #[.int .i64 10, .int .i64 I, .int .i64 J, .int .i64 a, .int .i64 b, .int .i64 c, .int .i64 d, .int .i64 v, .slice A m mc] 119
  go_enter Try.func74, Try.ntmps74
  go_upto_region 1 with fail
  generalize (w.alloc (.cells #[.int .i64 10, .int .i64 I, .int .i64 J, .int .i64 a, .int .i64 b, .int .i64 c, .int .i64 d, .int .i64 v, .slice A m mc] 119)) = w1 at h1 f1 t1 b1 ⊢
  generalize w.heap.size = t at hrt t1 ⊢
  have o0 : w1.cell? ⟨t, 0, none⟩ = some (.int .i64 10) := by rw [t1.cell]; rfl
  have o1 : w1.cell? ⟨t, 1, none⟩ = some (.int .i64 I) := by rw [t1.cell]; rfl
  have o2 : w1.cell? ⟨t, 2, none⟩ = some (.int .i64 J) := by rw [t1.cell]; rfl
  have o3 : w1.cell? ⟨t, 3, none⟩ = some (.int .i64 a) := by rw [t1.cell]; rfl
  have o4 : w1.cell? ⟨t, 4, none⟩ = some (.int .i64 b) := by rw [t1.cell]; rfl
  have o5 : w1.cell? ⟨t, 5, none⟩ = some (.int .i64 c) := by rw [t1.cell]; rfl
  have o6 : w1.cell? ⟨t, 6, none⟩ = some (.int .i64 d) := by rw [t1.cell]; rfl
  have o7 : w1.cell? ⟨t, 7, none⟩ = some (.int .i64 v) := by rw [t1.cell]; rfl
  have o8 : w1.cell? ⟨t, 8, none⟩ = some (.slice A m mc) := by rw [t1.cell]; rfl
  have c0 := h1.p0
  have hkn : ((n : Int) == 0) = false := by simp; omega
  go_upto_region 4 with fail
  refine Lex3.wp_region_lex [] (fun u => u.cell? ⟨B, 0, none⟩ = some (.slice (some ⟨gP, 0, none⟩) n cP) ∧ u.cell? ⟨t, 1, none⟩ = some (.int .i64 I)) (fun u n h => h) ⟨c0, o1⟩ (by kernel_rfl) (by kernel_rfl) ?_
  refine Lex3.run_free (v := ?_) (by rfl) (by rfl) (fun u => ?_) ?_; rotate_left; (go_simp; try with_reducible rfl); simp only [Act.put, List.setIfInBounds_toArray, List.set_cons_zero, List.set_cons_succ]
  refine Lex3.run_load (v := ?_) (by rfl) (by rfl) (fun u hu => ?_) ?_; rotate_left; (obtain ⟨hu0, hu1⟩ := hu; go_simp; try with_reducible rfl); simp only [Act.put, List.setIfInBounds_toArray, List.set_cons_zero, List.set_cons_succ]
  refine Lex3.run_free (v := ?_) (by rfl) (by rfl) (fun u => ?_) ?_; rotate_left; (go_simp; try with_reducible rfl); simp only [Act.put, List.setIfInBounds_toArray, List.set_cons_zero, List.set_cons_succ]
  refine Lex3.run_free (v := ?_) (by rfl) (by rfl) (fun u => ?_) ?_; rotate_left; (go_simp; try with_reducible rfl); simp only [Act.put, List.setIfInBounds_toArray, List.set_cons_zero, List.set_cons_succ]
  refine Lex3.run_free (v := ?_) (by rfl) (by rfl) (fun u => ?_) ?_; rotate_left; (go_simp; try with_reducible rfl); simp only [Act.put, List.setIfInBounds_toArray, List.set_cons_zero, List.set_cons_succ]
  refine Lex3.run_load (v := ?_) (by rfl) (by rfl) (fun u hu => ?_) ?_; rotate_left; (obtain ⟨hu0, hu1⟩ := hu; go_simp; try with_reducible rfl); simp only [Act.put, List.setIfInBounds_toArray, List.set_cons_zero, List.set_cons_succ]
  refine Lex3.run_free (v := ?_) (by rfl) (by rfl) (fun u => ?_) ?_; rotate_left; (go_simp; try with_reducible rfl); simp only [Act.put, List.setIfInBounds_toArray, List.set_cons_zero, List.set_cons_succ]
  refine Lex3.run_eff (by rfl) (by rfl) (fun n' K' hK => ?_)
  go_simp
  refine (Go.Proofs.Ytlbocfinjlkebaa.Pieces.at_any I n _ (by omega) (by omega)).mono ?_
  rintro e w' ⟨v0, rfl, v1, v2, rfl⟩
  obtain ⟨k, rfl⟩ := Int.eq_ofNat_of_zero_le v1
  have kl : k < n := by omega
  obtain ⟨e1, he1⟩ : ∃ e, es[k]? = some e := ⟨_, List.getElem?_eq_getElem (by omega)⟩
  refine hK _ _ ⟨c0, o1⟩ ?_
  clear hK K' v1 v2
  try simp only [Act.put, List.setIfInBounds_toArray, List.set_cons_zero, List.set_cons_succ]
  refine Lex3.run_free (v := ?_) (by rfl) (by rfl) (fun u => ?_) ?_; rotate_left; (go_simp; try with_reducible rfl); simp only [Act.put, List.setIfInBounds_toArray, List.set_cons_zero, List.set_cons_succ]
  refine Lex3.run_nil (fun n3 => ?_)
  try simp only [World.drewN_drewN]
  generalize hGe1 : 1 + n' + n3 = Ne1
  clear hGe1
  go_upto_region 5 with fail
  refine Lex3.wp_region_lex [] (fun u => u.cell? ⟨B, 0, none⟩ = some (.slice (some ⟨gP, 0, none⟩) n cP) ∧ u.cell? ⟨t, 2, none⟩ = some (.int .i64 J)) (fun u n h => h) ⟨c0, o2⟩ (by kernel_rfl) (by kernel_rfl) ?_
  refine Lex3.run_free (v := ?_) (by rfl) (by rfl) (fun u => ?_) ?_; rotate_left; (go_simp; try with_reducible rfl); simp only [Act.put, List.setIfInBounds_toArray, List.set_cons_zero, List.set_cons_succ]
  refine Lex3.run_load (v := ?_) (by rfl) (by rfl) (fun u hu => ?_) ?_; rotate_left; (obtain ⟨hu0, hu1⟩ := hu; go_simp; try with_reducible rfl); simp only [Act.put, List.setIfInBounds_toArray, List.set_cons_zero, List.set_cons_succ]
  refine Lex3.run_free (v := ?_) (by rfl) (by rfl) (fun u => ?_) ?_; rotate_left; (go_simp; try with_reducible rfl); simp only [Act.put, List.setIfInBounds_toArray, List.set_cons_zero, List.set_cons_succ]
  refine Lex3.run_free (v := ?_) (by rfl) (by rfl) (fun u => ?_) ?_; rotate_left; (go_simp; try with_reducible rfl); simp only [Act.put, List.setIfInBounds_toArray, List.set_cons_zero, List.set_cons_succ]
  refine Lex3.run_free (v := ?_) (by rfl) (by rfl) (fun u => ?_) ?_; rotate_left; (go_simp; try with_reducible rfl); simp only [Act.put, List.setIfInBounds_toArray, List.set_cons_zero, List.set_cons_succ]
  refine Lex3.run_load (v := ?_) (by rfl) (by rfl) (fun u hu => ?_) ?_; rotate_left; (obtain ⟨hu0, hu1⟩ := hu; go_simp; try with_reducible rfl); simp only [Act.put, List.setIfInBounds_toArray, List.set_cons_zero, List.set_cons_succ]
  refine Lex3.run_free (v := ?_) (by rfl) (by rfl) (fun u => ?_) ?_; rotate_left; (go_simp; try with_reducible rfl); simp only [Act.put, List.setIfInBounds_toArray, List.set_cons_zero, List.set_cons_succ]
  refine Lex3.run_eff (by rfl) (by rfl) (fun n' K' hK => ?_)
  go_simp
  refine (Go.Proofs.Ytlbocfinjlkebaa.Pieces.at_any J n _ (by omega) (by omega)).mono ?_
  rintro e w' ⟨v0, rfl, v1, v2, rfl⟩
  obtain ⟨j, rfl⟩ := Int.eq_ofNat_of_zero_le v1
  have jl : j < n := by omega
  obtain ⟨e2, he2⟩ : ∃ e, es[j]? = some e := ⟨_, List.getElem?_eq_getElem (by omega)⟩
  refine hK _ _ ⟨c0, o2⟩ ?_
  clear hK K' v1 v2
  try simp only [Act.put, List.setIfInBounds_toArray, List.set_cons_zero, List.set_cons_succ]
  refine Lex3.run_free (v := ?_) (by rfl) (by rfl) (fun u => ?_) ?_; rotate_left; (go_simp; try with_reducible rfl); simp only [Act.put, List.setIfInBounds_toArray, List.set_cons_zero, List.set_cons_succ]
  refine Lex3.run_nil (fun n3 => ?_)
  try simp only [World.drewN_drewN]
  generalize hGe2 : Ne1 + 1 + n' + n3 = ND
  clear hGe2
  obtain ⟨bp, gp, cp, bq, gq, cq, W, H, zs, zt, rfl⟩ : ∃ bp gp cp bq gq cq W H zs zs', e1 = ⟨bp, gp, cp, bq, gq, cq, W, H, zs, zs'⟩ := ⟨_, _, _, _, _, _, _, _, _, _, rfl⟩
  obtain rfl : zs = zt := hz _ (List.mem_of_getElem? he1)
  obtain ⟨bp2, gp2, cp2, bq2, gq2, cq2, W2, H2, zs2, zt2, rfl⟩ : ∃ bp gp cp bq gq cq W H zs zs', e2 = ⟨bp, gp, cp, bq, gq, cq, W, H, zs, zs'⟩ := ⟨_, _, _, _, _, _, _, _, _, _, rfl⟩
  obtain rfl : zs2 = zt2 := hz _ (List.mem_of_getElem? he2)
  replace h1 := h1.drewN ND
  replace t1 := t1.drewN ND
  replace b1 := below_drewN b1 ND
  clear o0 o1 o2 c0 o3 o4 o5 o6 o7 o8
  generalize (w1.drewN ND) = w2 at h1 t1 b1 ⊢
  clear f1
  have c0 := h1.p0
  have c1 := h1.p1
  have e1 := h1.cellP hn he1
  have e2 := h1.cellQ hn he1
  have e3 := h1.cellP hn he2
  have e4 := h1.cellQ hn he2
  dsimp only at e1 e2 e3 e4
  obtain ⟨⟨hp, hq⟩, ⟨rr1, rr2, rr3, rr4⟩, _⟩ := h1.ent k _ he1
  obtain ⟨⟨hp2, hq2⟩, ⟨ss1, ss2, ss3, ss4⟩, _⟩ := h1.ent j _ he2
  dsimp only at hp hq hp2 hq2 rr1 rr2 rr3 rr4 ss1 ss2 ss3 ss4
  have o0 : w2.cell? ⟨t, 0, none⟩ = some (.int .i64 10) := by rw [t1.cell]; rfl
  have o1 : w2.cell? ⟨t, 1, none⟩ = some (.int .i64 I) := by rw [t1.cell]; rfl
  have o2 : w2.cell? ⟨t, 2, none⟩ = some (.int .i64 J) := by rw [t1.cell]; rfl
  have o3 : w2.cell? ⟨t, 3, none⟩ = some (.int .i64 a) := by rw [t1.cell]; rfl
  have o4 : w2.cell? ⟨t, 4, none⟩ = some (.int .i64 b) := by rw [t1.cell]; rfl
  have o5 : w2.cell? ⟨t, 5, none⟩ = some (.int .i64 c) := by rw [t1.cell]; rfl
  have o6 : w2.cell? ⟨t, 6, none⟩ = some (.int .i64 d) := by rw [t1.cell]; rfl
  have o7 : w2.cell? ⟨t, 7, none⟩ = some (.int .i64 v) := by rw [t1.cell]; rfl
  have o8 : w2.cell? ⟨t, 8, none⟩ = some (.slice A m mc) := by rw [t1.cell]; rfl
  go_wp2_with fail
  refine (ask_pix base B n r1 _ _ es I J a b c d v A m mc w2 h1 hz hn hm k j _ he1).mono ?_
  rintro e w3 ⟨rfl, b3, hf⟩
  go_wp2_with fail
  refine bodyPost_end (results_none rfl _ _ _) rfl ?_
  exact ⟨rfl, b1.trans b3, hf⟩

set_option maxRecDepth 100000 in
set_option maxHeartbeats 16000000 in
theorem one_other (base B n : Nat) (r : Nat → Nat) (vp vq : Value) (es : List Ent) (K I J a b c d v : Int) (A : Option Addr) (m mc : Nat) (w : World) (h : Book base w B r vp vq (es.map pP) (es.map pQ) es) (hz : ∀ e ∈ es, e.zp = e.zq) (hn : es.length = n) (hm : n ≤ 8388608) (h1n : 1 ≤ n) (hno : ¬ K = 1 ∧ ¬ K = 2 ∧ ¬ K = 3 ∧ ¬ K = 6 ∧ ¬ K = 7 ∧ ¬ K = 11 ∧ ¬ K = 12) (hno2 : K ≠ 4 ∧ K ≠ 5 ∧ K ≠ 8 ∧ K ≠ 9 ∧ K ≠ 10) :
    Calls Try.prog 74 #[.pointer (some ⟨B, 0, none⟩), .agg #[.int .i64 K, .int .i64 I, .int .i64 J, .int .i64 a, .int .i64 b, .int .i64 c, .int .i64 d, .int .i64 v, .slice A m mc]] w (Goes base B n w) := by
  obtain ⟨y1, y2, y3, y6, y7, y11, y12⟩ := hno
  have HNO := Lib.hid hno2; clear hno2
  have hsee : ∃ gP cP gQ cQ, vp = .slice (some ⟨gP, 0, none⟩) n cP ∧ vq = .slice (some ⟨gQ, 0, none⟩) n cQ := by
    obtain ⟨e, he⟩ : ∃ e, es[0]? = some e := ⟨_, List.getElem?_eq_getElem (by omega)⟩
    obtain ⟨gP, cP, gQ, cQ, q1, q2, _⟩ := h.see n hn he
    exact ⟨gP, cP, gQ, cQ, q1, q2⟩
  obtain ⟨gP, cP, gQ, cQ, rfl, rfl⟩ := hsee
  obtain ⟨r1, h1, f1, hrt, t1, b1⟩ := h.box #[.int .i64 K, .int .i64 I, .int .i64 J, .int .i64 a, .int .i64 b, .int .i64 c, .int .i64 d, .int .i64 v, .slice A m mc] 119
  go_enter Try.func74, Try.ntmps74
  go_upto_region 1 with fail
  generalize (w.alloc (.cells #[.int .i64 K, .int .i64 I, .int .i64 J, .int .i64 a, .int .i64 b, .int .i64 c, .int .i64 d, .int .i64 v, .slice A m mc] 119)) = w1 at h1 f1 t1 b1 ⊢
  generalize w.heap.size = t at hrt t1 ⊢
  have o0 : w1.cell? ⟨t, 0, none⟩ = some (.int .i64 K) := by rw [t1.cell]; rfl
  have o1 : w1.cell? ⟨t, 1, none⟩ = some (.int .i64 I) := by rw [t1.cell]; rfl
  have o2 : w1.cell? ⟨t, 2, none⟩ = some (.int .i64 J) := by rw [t1.cell]; rfl
  have o3 : w1.cell? ⟨t, 3, none⟩ = some (.int .i64 a) := by rw [t1.cell]; rfl
  have o4 : w1.cell? ⟨t, 4, none⟩ = some (.int .i64 b) := by rw [t1.cell]; rfl
  have o5 : w1.cell? ⟨t, 5, none⟩ = some (.int .i64 c) := by rw [t1.cell]; rfl
  have o6 : w1.cell? ⟨t, 6, none⟩ = some (.int .i64 d) := by rw [t1.cell]; rfl
  have o7 : w1.cell? ⟨t, 7, none⟩ = some (.int .i64 v) := by rw [t1.cell]; rfl
  have o8 : w1.cell? ⟨t, 8, none⟩ = some (.slice A m mc) := by rw [t1.cell]; rfl
  have c0 := h1.p0
  have hkn : ((n : Int) == 0) = false := by simp; omega
  have kb1 : (K == 1) = false := by simpa using y1
  have kb2 : (K == 2) = false := by simpa using y2
  go_upto_region 4 with fail
  refine Lex3.wp_region_lex [] (fun u => u.cell? ⟨B, 0, none⟩ = some (.slice (some ⟨gP, 0, none⟩) n cP) ∧ u.cell? ⟨t, 1, none⟩ = some (.int .i64 I)) (fun u n h => h) ⟨c0, o1⟩ (by kernel_rfl) (by kernel_rfl) ?_
  refine Lex3.run_free (v := ?_) (by rfl) (by rfl) (fun u => ?_) ?_; rotate_left; (go_simp; try with_reducible rfl); simp only [Act.put, List.setIfInBounds_toArray, List.set_cons_zero, List.set_cons_succ]
  refine Lex3.run_load (v := ?_) (by rfl) (by rfl) (fun u hu => ?_) ?_; rotate_left; (obtain ⟨hu0, hu1⟩ := hu; go_simp; try with_reducible rfl); simp only [Act.put, List.setIfInBounds_toArray, List.set_cons_zero, List.set_cons_succ]
  refine Lex3.run_free (v := ?_) (by rfl) (by rfl) (fun u => ?_) ?_; rotate_left; (go_simp; try with_reducible rfl); simp only [Act.put, List.setIfInBounds_toArray, List.set_cons_zero, List.set_cons_succ]
  refine Lex3.run_free (v := ?_) (by rfl) (by rfl) (fun u => ?_) ?_; rotate_left; (go_simp; try with_reducible rfl); simp only [Act.put, List.setIfInBounds_toArray, List.set_cons_zero, List.set_cons_succ]
  refine Lex3.run_free (v := ?_) (by rfl) (by rfl) (fun u => ?_) ?_; rotate_left; (go_simp; try with_reducible rfl); simp only [Act.put, List.setIfInBounds_toArray, List.set_cons_zero, List.set_cons_succ]
  refine Lex3.run_load (v := ?_) (by rfl) (by rfl) (fun u hu => ?_) ?_; rotate_left; (obtain ⟨hu0, hu1⟩ := hu; go_simp; try with_reducible rfl); simp only [Act.put, List.setIfInBounds_toArray, List.set_cons_zero, List.set_cons_succ]
  refine Lex3.run_free (v := ?_) (by rfl) (by rfl) (fun u => ?_) ?_; rotate_left; (go_simp; try with_reducible rfl); simp only [Act.put, List.setIfInBounds_toArray, List.set_cons_zero, List.set_cons_succ]
  refine Lex3.run_eff (by rfl) (by rfl) (fun n' K' hK => ?_)
  go_simp
  refine (Go.Proofs.Ytlbocfinjlkebaa.Pieces.at_any I n _ (by omega) (by omega)).mono ?_
  rintro e w' ⟨v0, rfl, v1, v2, rfl⟩
  obtain ⟨k, rfl⟩ := Int.eq_ofNat_of_zero_le v1
  have kl : k < n := by omega
  obtain ⟨e1, he1⟩ : ∃ e, es[k]? = some e := ⟨_, List.getElem?_eq_getElem (by omega)⟩
  refine hK _ _ ⟨c0, o1⟩ ?_
  clear hK K' v1 v2
  try simp only [Act.put, List.setIfInBounds_toArray, List.set_cons_zero, List.set_cons_succ]
  refine Lex3.run_free (v := ?_) (by rfl) (by rfl) (fun u => ?_) ?_; rotate_left; (go_simp; try with_reducible rfl); simp only [Act.put, List.setIfInBounds_toArray, List.set_cons_zero, List.set_cons_succ]
  refine Lex3.run_nil (fun n3 => ?_)
  try simp only [World.drewN_drewN]
  generalize hGe1 : 1 + n' + n3 = Ne1
  clear hGe1
  go_upto_region 5 with fail
  refine Lex3.wp_region_lex [] (fun u => u.cell? ⟨B, 0, none⟩ = some (.slice (some ⟨gP, 0, none⟩) n cP) ∧ u.cell? ⟨t, 2, none⟩ = some (.int .i64 J)) (fun u n h => h) ⟨c0, o2⟩ (by kernel_rfl) (by kernel_rfl) ?_
  refine Lex3.run_free (v := ?_) (by rfl) (by rfl) (fun u => ?_) ?_; rotate_left; (go_simp; try with_reducible rfl); simp only [Act.put, List.setIfInBounds_toArray, List.set_cons_zero, List.set_cons_succ]
  refine Lex3.run_load (v := ?_) (by rfl) (by rfl) (fun u hu => ?_) ?_; rotate_left; (obtain ⟨hu0, hu1⟩ := hu; go_simp; try with_reducible rfl); simp only [Act.put, List.setIfInBounds_toArray, List.set_cons_zero, List.set_cons_succ]
  refine Lex3.run_free (v := ?_) (by rfl) (by rfl) (fun u => ?_) ?_; rotate_left; (go_simp; try with_reducible rfl); simp only [Act.put, List.setIfInBounds_toArray, List.set_cons_zero, List.set_cons_succ]
  refine Lex3.run_free (v := ?_) (by rfl) (by rfl) (fun u => ?_) ?_; rotate_left; (go_simp; try with_reducible rfl); simp only [Act.put, List.setIfInBounds_toArray, List.set_cons_zero, List.set_cons_succ]
  refine Lex3.run_free (v := ?_) (by rfl) (by rfl) (fun u => ?_) ?_; rotate_left; (go_simp; try with_reducible rfl); simp only [Act.put, List.setIfInBounds_toArray, List.set_cons_zero, List.set_cons_succ]
  refine Lex3.run_load (v := ?_) (by rfl) (by rfl) (fun u hu => ?_) ?_; rotate_left; (obtain ⟨hu0, hu1⟩ := hu; go_simp; try with_reducible rfl); simp only [Act.put, List.setIfInBounds_toArray, List.set_cons_zero, List.set_cons_succ]
  refine Lex3.run_free (v := ?_) (by rfl) (by rfl) (fun u => ?_) ?_; rotate_left; (go_simp; try with_reducible rfl); simp only [Act.put, List.setIfInBounds_toArray, List.set_cons_zero, List.set_cons_succ]
  refine Lex3.run_eff (by rfl) (by rfl) (fun n' K' hK => ?_)
  go_simp
  refine (Go.Proofs.Ytlbocfinjlkebaa.Pieces.at_any J n _ (by omega) (by omega)).mono ?_
  rintro e w' ⟨v0, rfl, v1, v2, rfl⟩
  obtain ⟨j, rfl⟩ := Int.eq_ofNat_of_zero_le v1
  have jl : j < n := by omega
  obtain ⟨e2, he2⟩ : ∃ e, es[j]? = some e := ⟨_, List.getElem?_eq_getElem (by omega)⟩
  refine hK _ _ ⟨c0, o2⟩ ?_
  clear hK K' v1 v2
  try simp only [Act.put, List.setIfInBounds_toArray, List.set_cons_zero, List.set_cons_succ]
  refine Lex3.run_free (v := ?_) (by rfl) (by rfl) (fun u => ?_) ?_; rotate_left; (go_simp; try with_reducible rfl); simp only [Act.put, List.setIfInBounds_toArray, List.set_cons_zero, List.set_cons_succ]
  refine Lex3.run_nil (fun n3 => ?_)
  try simp only [World.drewN_drewN]
  generalize hGe2 : Ne1 + 1 + n' + n3 = ND
  clear hGe2
  obtain ⟨bp, gp, cp, bq, gq, cq, W, H, zs, zt, rfl⟩ : ∃ bp gp cp bq gq cq W H zs zs', e1 = ⟨bp, gp, cp, bq, gq, cq, W, H, zs, zs'⟩ := ⟨_, _, _, _, _, _, _, _, _, _, rfl⟩
  obtain rfl : zs = zt := hz _ (List.mem_of_getElem? he1)
  obtain ⟨bp2, gp2, cp2, bq2, gq2, cq2, W2, H2, zs2, zt2, rfl⟩ : ∃ bp gp cp bq gq cq W H zs zs', e2 = ⟨bp, gp, cp, bq, gq, cq, W, H, zs, zs'⟩ := ⟨_, _, _, _, _, _, _, _, _, _, rfl⟩
  obtain rfl : zs2 = zt2 := hz _ (List.mem_of_getElem? he2)
  replace h1 := h1.drewN ND
  replace t1 := t1.drewN ND
  replace b1 := below_drewN b1 ND
  clear o0 o1 o2 c0 o3 o4 o5 o6 o7 o8
  generalize (w1.drewN ND) = w2 at h1 t1 b1 ⊢
  clear f1
  have c0 := h1.p0
  have c1 := h1.p1
  have e1 := h1.cellP hn he1
  have e2 := h1.cellQ hn he1
  have e3 := h1.cellP hn he2
  have e4 := h1.cellQ hn he2
  dsimp only at e1 e2 e3 e4
  obtain ⟨⟨hp, hq⟩, ⟨rr1, rr2, rr3, rr4⟩, _⟩ := h1.ent k _ he1
  obtain ⟨⟨hp2, hq2⟩, ⟨ss1, ss2, ss3, ss4⟩, _⟩ := h1.ent j _ he2
  dsimp only at hp hq hp2 hq2 rr1 rr2 rr3 rr4 ss1 ss2 ss3 ss4
  have o0 : w2.cell? ⟨t, 0, none⟩ = some (.int .i64 K) := by rw [t1.cell]; rfl
  have o1 : w2.cell? ⟨t, 1, none⟩ = some (.int .i64 I) := by rw [t1.cell]; rfl
  have o2 : w2.cell? ⟨t, 2, none⟩ = some (.int .i64 J) := by rw [t1.cell]; rfl
  have o3 : w2.cell? ⟨t, 3, none⟩ = some (.int .i64 a) := by rw [t1.cell]; rfl
  have o4 : w2.cell? ⟨t, 4, none⟩ = some (.int .i64 b) := by rw [t1.cell]; rfl
  have o5 : w2.cell? ⟨t, 5, none⟩ = some (.int .i64 c) := by rw [t1.cell]; rfl
  have o6 : w2.cell? ⟨t, 6, none⟩ = some (.int .i64 d) := by rw [t1.cell]; rfl
  have o7 : w2.cell? ⟨t, 7, none⟩ = some (.int .i64 v) := by rw [t1.cell]; rfl
  have o8 : w2.cell? ⟨t, 8, none⟩ = some (.slice A m mc) := by rw [t1.cell]; rfl
  go_wp2_with fail
  refine (ask_other base B n r1 _ _ es K I J a b c d v A m mc w2 h1 hz hn hm k j _ he1 HNO.out).mono ?_
  rintro e w3 ⟨rfl, b3, hf⟩
  go_wp2_with fail
  refine bodyPost_end (results_none rfl _ _ _) rfl ?_
  exact ⟨rfl, b1.trans b3, hf⟩

set_option maxRecDepth 100000 in
set_option maxHeartbeats 16000000 in
theorem one_lay (base B n : Nat) (r : Nat → Nat) (vp vq : Value) (es : List Ent) (I J a b c d v : Int) (A : Option Addr) (m mc : Nat) (w : World) (h : Book base w B r vp vq (es.map pP) (es.map pQ) es) (hz : ∀ e ∈ es, e.zp = e.zq) (hn : es.length = n) (hm : n ≤ 8388608) (h1n : 1 ≤ n) (ha : -9223372036854775808 ≤ a) (hb : -9223372036854775808 ≤ b) :
    Calls Try.prog 74 #[.pointer (some ⟨B, 0, none⟩), .agg #[.int .i64 7, .int .i64 I, .int .i64 J, .int .i64 a, .int .i64 b, .int .i64 c, .int .i64 d, .int .i64 v, .slice A m mc]] w (Goes base B n w) := by
  have hsee : ∃ gP cP gQ cQ, vp = .slice (some ⟨gP, 0, none⟩) n cP ∧ vq = .slice (some ⟨gQ, 0, none⟩) n cQ := by
    obtain ⟨e, he⟩ : ∃ e, es[0]? = some e := ⟨_, List.getElem?_eq_getElem (by omega)⟩
    obtain ⟨gP, cP, gQ, cQ, q1, q2, _⟩ := h.see n hn he
    exact ⟨gP, cP, gQ, cQ, q1, q2⟩
  obtain ⟨gP, cP, gQ, cQ, rfl, rfl⟩ := hsee
  obtain ⟨r1, h1, f1, hrt, t1, b1⟩ := h.box #[.int .i64 7, .int .i64 I, .int .i64 J, .int .i64 a, .int .i64 b, .int .i64 c, .int .i64 d, .int .i64 v, .slice A m mc] 119
  go_enter Try.func74, Try.ntmps74
  go_upto_region 1 with fail
  generalize (w.alloc (.cells #[.int .i64 7, .int .i64 I, .int .i64 J, .int .i64 a, .int .i64 b, .int .i64 c, .int .i64 d, .int .i64 v, .slice A m mc] 119)) = w1 at h1 f1 t1 b1 ⊢
  generalize w.heap.size = t at hrt t1 ⊢
  have o0 : w1.cell? ⟨t, 0, none⟩ = some (.int .i64 7) := by rw [t1.cell]; rfl
  have o1 : w1.cell? ⟨t, 1, none⟩ = some (.int .i64 I) := by rw [t1.cell]; rfl
  have o2 : w1.cell? ⟨t, 2, none⟩ = some (.int .i64 J) := by rw [t1.cell]; rfl
  have o3 : w1.cell? ⟨t, 3, none⟩ = some (.int .i64 a) := by rw [t1.cell]; rfl
  have o4 : w1.cell? ⟨t, 4, none⟩ = some (.int .i64 b) := by rw [t1.cell]; rfl
  have c0 := h1.p0
  have hkn : ((n : Int) == 0) = false := by simp; omega
  go_upto_region 4 with fail
  refine Lex3.wp_region_lex [] (fun u => u.cell? ⟨B, 0, none⟩ = some (.slice (some ⟨gP, 0, none⟩) n cP) ∧ u.cell? ⟨t, 1, none⟩ = some (.int .i64 I)) (fun u n h => h) ⟨c0, o1⟩ (by kernel_rfl) (by kernel_rfl) ?_
  refine Lex3.run_free (v := ?_) (by rfl) (by rfl) (fun u => ?_) ?_; rotate_left; (go_simp; try with_reducible rfl); simp only [Act.put, List.setIfInBounds_toArray, List.set_cons_zero, List.set_cons_succ]
  refine Lex3.run_load (v := ?_) (by rfl) (by rfl) (fun u hu => ?_) ?_; rotate_left; (obtain ⟨hu0, hu1⟩ := hu; go_simp; try with_reducible rfl); simp only [Act.put, List.setIfInBounds_toArray, List.set_cons_zero, List.set_cons_succ]
  refine Lex3.run_free (v := ?_) (by rfl) (by rfl) (fun u => ?_) ?_; rotate_left; (go_simp; try with_reducible rfl); simp only [Act.put, List.setIfInBounds_toArray, List.set_cons_zero, List.set_cons_succ]
  refine Lex3.run_free (v := ?_) (by rfl) (by rfl) (fun u => ?_) ?_; rotate_left; (go_simp; try with_reducible rfl); simp only [Act.put, List.setIfInBounds_toArray, List.set_cons_zero, List.set_cons_succ]
  refine Lex3.run_free (v := ?_) (by rfl) (by rfl) (fun u => ?_) ?_; rotate_left; (go_simp; try with_reducible rfl); simp only [Act.put, List.setIfInBounds_toArray, List.set_cons_zero, List.set_cons_succ]
  refine Lex3.run_load (v := ?_) (by rfl) (by rfl) (fun u hu => ?_) ?_; rotate_left; (obtain ⟨hu0, hu1⟩ := hu; go_simp; try with_reducible rfl); simp only [Act.put, List.setIfInBounds_toArray, List.set_cons_zero, List.set_cons_succ]
  refine Lex3.run_free (v := ?_) (by rfl) (by rfl) (fun u => ?_) ?_; rotate_left; (go_simp; try with_reducible rfl); simp only [Act.put, List.setIfInBounds_toArray, List.set_cons_zero, List.set_cons_succ]
  refine Lex3.run_eff (by rfl) (by rfl) (fun n' K' hK => ?_)
  go_simp
  refine (Go.Proofs.Ytlbocfinjlkebaa.Pieces.at_any I n _ (by omega) (by omega)).mono ?_
  rintro e w' ⟨v0, rfl, v1, v2, rfl⟩
  obtain ⟨k, rfl⟩ := Int.eq_ofNat_of_zero_le v1
  have kl : k < n := by omega
  obtain ⟨e1, he1⟩ : ∃ e, es[k]? = some e := ⟨_, List.getElem?_eq_getElem (by omega)⟩
  refine hK _ _ ⟨c0, o1⟩ ?_
  clear hK K' v1 v2
  try simp only [Act.put, List.setIfInBounds_toArray, List.set_cons_zero, List.set_cons_succ]
  refine Lex3.run_free (v := ?_) (by rfl) (by rfl) (fun u => ?_) ?_; rotate_left; (go_simp; try with_reducible rfl); simp only [Act.put, List.setIfInBounds_toArray, List.set_cons_zero, List.set_cons_succ]
  refine Lex3.run_nil (fun n3 => ?_)
  try simp only [World.drewN_drewN]
  generalize hGe1 : 1 + n' + n3 = Ne1
  clear hGe1
  go_upto_region 5 with fail
  refine Lex3.wp_region_lex [] (fun u => u.cell? ⟨B, 0, none⟩ = some (.slice (some ⟨gP, 0, none⟩) n cP) ∧ u.cell? ⟨t, 2, none⟩ = some (.int .i64 J)) (fun u n h => h) ⟨c0, o2⟩ (by kernel_rfl) (by kernel_rfl) ?_
  refine Lex3.run_free (v := ?_) (by rfl) (by rfl) (fun u => ?_) ?_; rotate_left; (go_simp; try with_reducible rfl); simp only [Act.put, List.setIfInBounds_toArray, List.set_cons_zero, List.set_cons_succ]
  refine Lex3.run_load (v := ?_) (by rfl) (by rfl) (fun u hu => ?_) ?_; rotate_left; (obtain ⟨hu0, hu1⟩ := hu; go_simp; try with_reducible rfl); simp only [Act.put, List.setIfInBounds_toArray, List.set_cons_zero, List.set_cons_succ]
  refine Lex3.run_free (v := ?_) (by rfl) (by rfl) (fun u => ?_) ?_; rotate_left; (go_simp; try with_reducible rfl); simp only [Act.put, List.setIfInBounds_toArray, List.set_cons_zero, List.set_cons_succ]
  refine Lex3.run_free (v := ?_) (by rfl) (by rfl) (fun u => ?_) ?_; rotate_left; (go_simp; try with_reducible rfl); simp only [Act.put, List.setIfInBounds_toArray, List.set_cons_zero, List.set_cons_succ]
  refine Lex3.run_free (v := ?_) (by rfl) (by rfl) (fun u => ?_) ?_; rotate_left; (go_simp; try with_reducible rfl); simp only [Act.put, List.setIfInBounds_toArray, List.set_cons_zero, List.set_cons_succ]
  refine Lex3.run_load (v := ?_) (by rfl) (by rfl) (fun u hu => ?_) ?_; rotate_left; (obtain ⟨hu0, hu1⟩ := hu; go_simp; try with_reducible rfl); simp only [Act.put, List.setIfInBounds_toArray, List.set_cons_zero, List.set_cons_succ]
  refine Lex3.run_free (v := ?_) (by rfl) (by rfl) (fun u => ?_) ?_; rotate_left; (go_simp; try with_reducible rfl); simp only [Act.put, List.setIfInBounds_toArray, List.set_cons_zero, List.set_cons_succ]
  refine Lex3.run_eff (by rfl) (by rfl) (fun n' K' hK => ?_)
  go_simp
  refine (Go.Proofs.Ytlbocfinjlkebaa.Pieces.at_any J n _ (by omega) (by omega)).mono ?_
  rintro e w' ⟨v0, rfl, v1, v2, rfl⟩
  obtain ⟨j, rfl⟩ := Int.eq_ofNat_of_zero_le v1
  have jl : j < n := by omega
  obtain ⟨e2, he2⟩ : ∃ e, es[j]? = some e := ⟨_, List.getElem?_eq_getElem (by omega)⟩
  refine hK _ _ ⟨c0, o2⟩ ?_
  clear hK K' v1 v2
  try simp only [Act.put, List.setIfInBounds_toArray, List.set_cons_zero, List.set_cons_succ]
  refine Lex3.run_free (v := ?_) (by rfl) (by rfl) (fun u => ?_) ?_; rotate_left; (go_simp; try with_reducible rfl); simp only [Act.put, List.setIfInBounds_toArray, List.set_cons_zero, List.set_cons_succ]
  refine Lex3.run_nil (fun n3 => ?_)
  try simp only [World.drewN_drewN]
  generalize hGe2 : Ne1 + 1 + n' + n3 = ND
  clear hGe2
  obtain ⟨bp, gp, cp, bq, gq, cq, W, H, zs, zt, rfl⟩ : ∃ bp gp cp bq gq cq W H zs zs', e1 = ⟨bp, gp, cp, bq, gq, cq, W, H, zs, zs'⟩ := ⟨_, _, _, _, _, _, _, _, _, _, rfl⟩
  obtain rfl : zs = zt := hz _ (List.mem_of_getElem? he1)
  obtain ⟨bp2, gp2, cp2, bq2, gq2, cq2, W2, H2, zs2, zt2, rfl⟩ : ∃ bp gp cp bq gq cq W H zs zs', e2 = ⟨bp, gp, cp, bq, gq, cq, W, H, zs, zs'⟩ := ⟨_, _, _, _, _, _, _, _, _, _, rfl⟩
  obtain rfl : zs2 = zt2 := hz _ (List.mem_of_getElem? he2)
  replace h1 := h1.drewN ND
  replace t1 := t1.drewN ND
  replace b1 := below_drewN b1 ND
  clear o0 o1 o2 c0 o3 o4
  generalize (w1.drewN ND) = w2 at h1 t1 b1 ⊢
  clear f1
  have c0 := h1.p0
  have c1 := h1.p1
  have e1 := h1.cellP hn he1
  have e2 := h1.cellQ hn he1
  have e3 := h1.cellP hn he2
  have e4 := h1.cellQ hn he2
  dsimp only at e1 e2 e3 e4
  obtain ⟨⟨hp, hq⟩, ⟨rr1, rr2, rr3, rr4⟩, _⟩ := h1.ent k _ he1
  obtain ⟨⟨hp2, hq2⟩, ⟨ss1, ss2, ss3, ss4⟩, _⟩ := h1.ent j _ he2
  dsimp only at hp hq hp2 hq2 rr1 rr2 rr3 rr4 ss1 ss2 ss3 ss4
  have o0 : w2.cell? ⟨t, 0, none⟩ = some (.int .i64 7) := by rw [t1.cell]; rfl
  have o3 : w2.cell? ⟨t, 3, none⟩ = some (.int .i64 a) := by rw [t1.cell]; rfl
  have o4 : w2.cell? ⟨t, 4, none⟩ = some (.int .i64 b) := by rw [t1.cell]; rfl
  
  by_cases hkj : k = j
  · obtain rfl : k = j := by omega
    have hee := he1.symm.trans he2
    injection hee with hee
    injection hee with q1 q2 q3 q4 q5 q6 q7 q8 q9 q10
    subst q1 q2 q3 q4 q5 q6 q7 q8 q9
    clear q10 ss1 ss2 ss3 ss4 he2 hp2 hq2
    go_upto_region 16 with fail
    refine Lex3.wp_region_lex [] (fun u => u.cell? ⟨B, 0, none⟩ = some (.slice (some ⟨gP, 0, none⟩) n cP) ∧ u.cell? ⟨gP, k, none⟩ = some (.pointer (some ⟨bp, 0, none⟩)) ∧ u.cell? ⟨t, 3, none⟩ = some (.int .i64 a) ∧ u.cell? ⟨t, 4, none⟩ = some (.int .i64 b)) (fun u n h => h) ⟨c0, e1, o3, o4⟩ (by kernel_rfl) (by kernel_rfl) ?_
    refine Lex3.run_free (v := ?_) (by rfl) (by rfl) (fun u => ?_) ?_; rotate_left; (go_simp; try with_reducible rfl); simp only [Act.put, List.setIfInBounds_toArray, List.set_cons_zero, List.set_cons_succ]
    refine Lex3.run_free (v := ?_) (by rfl) (by rfl) (fun u => ?_) ?_; rotate_left; (go_simp; try with_reducible rfl); simp only [Act.put, List.setIfInBounds_toArray, List.set_cons_zero, List.set_cons_succ]
    refine Lex3.run_free (v := ?_) (by rfl) (by rfl) (fun u => ?_) ?_; rotate_left; (go_simp; try with_reducible rfl); simp only [Act.put, List.setIfInBounds_toArray, List.set_cons_zero, List.set_cons_succ]
    refine Lex3.run_load (v := ?_) (by rfl) (by rfl) (fun u hu => ?_) ?_; rotate_left; (obtain ⟨hu0, hu1, hu2, hu3⟩ := hu; go_simp; try with_reducible rfl); simp only [Act.put, List.setIfInBounds_toArray, List.set_cons_zero, List.set_cons_succ]
    refine Lex3.run_free (v := ?_) (by rfl) (by rfl) (fun u => ?_) ?_; rotate_left; (go_simp; try with_reducible rfl); simp only [Act.put, List.setIfInBounds_toArray, List.set_cons_zero, List.set_cons_succ]
    refine Lex3.run_free (v := ?_) (by rfl) (by rfl) (fun u => ?_) ?_; rotate_left; (go_simp; try with_reducible rfl); simp only [Act.put, List.setIfInBounds_toArray, List.set_cons_zero, List.set_cons_succ]
    refine Lex3.run_load (v := ?_) (by rfl) (by rfl) (fun u hu => ?_) ?_; rotate_left; (obtain ⟨hu0, hu1, hu2, hu3⟩ := hu; go_simp; try with_reducible rfl); simp only [Act.put, List.setIfInBounds_toArray, List.set_cons_zero, List.set_cons_succ]
    refine Lex3.run_free (v := ?_) (by rfl) (by rfl) (fun u => ?_) ?_; rotate_left; (go_simp; try with_reducible rfl); simp only [Act.put, List.setIfInBounds_toArray, List.set_cons_zero, List.set_cons_succ]
    refine Lex3.run_free (v := ?_) (by rfl) (by rfl) (fun u => ?_) ?_; rotate_left; (go_simp; try with_reducible rfl); simp only [Act.put, List.setIfInBounds_toArray, List.set_cons_zero, List.set_cons_succ]
    refine Lex3.run_free (v := ?_) (by rfl) (by rfl) (fun u => ?_) ?_; rotate_left; (go_simp; try with_reducible rfl); simp only [Act.put, List.setIfInBounds_toArray, List.set_cons_zero, List.set_cons_succ]
    refine Lex3.run_load (v := ?_) (by rfl) (by rfl) (fun u hu => ?_) ?_; rotate_left; (obtain ⟨hu0, hu1, hu2, hu3⟩ := hu; go_simp; try with_reducible rfl); simp only [Act.put, List.setIfInBounds_toArray, List.set_cons_zero, List.set_cons_succ]
    refine Lex3.run_free (v := ?_) (by rfl) (by rfl) (fun u => ?_) ?_; rotate_left; (go_simp; try with_reducible rfl); simp only [Act.put, List.setIfInBounds_toArray, List.set_cons_zero, List.set_cons_succ]
    refine Lex3.run_free (v := ?_) (by rfl) (by rfl) (fun u => ?_) ?_; rotate_left; (go_simp; try with_reducible rfl); simp only [Act.put, List.setIfInBounds_toArray, List.set_cons_zero, List.set_cons_succ]
    refine Lex3.run_load (v := ?_) (by rfl) (by rfl) (fun u hu => ?_) ?_; rotate_left; (obtain ⟨hu0, hu1, hu2, hu3⟩ := hu; go_simp; try with_reducible rfl); simp only [Act.put, List.setIfInBounds_toArray, List.set_cons_zero, List.set_cons_succ]
    refine Lex3.run_free (v := ?_) (by rfl) (by rfl) (fun u => ?_) ?_; rotate_left; (go_simp; try with_reducible rfl); simp only [Act.put, List.setIfInBounds_toArray, List.set_cons_zero, List.set_cons_succ]
    refine Lex3.run_load (v := ?_) (by rfl) (by rfl) (fun u hu => ?_) ?_; rotate_left; (obtain ⟨hu0, hu1, hu2, hu3⟩ := hu; go_simp; try with_reducible rfl); simp only [Act.put, List.setIfInBounds_toArray, List.set_cons_zero, List.set_cons_succ]
    refine Lex3.run_free (v := ?_) (by rfl) (by rfl) (fun u => ?_) ?_; rotate_left; (go_simp; try with_reducible rfl); simp only [Act.put, List.setIfInBounds_toArray, List.set_cons_zero, List.set_cons_succ]
    refine Lex3.run_load (v := ?_) (by rfl) (by rfl) (fun u hu => ?_) ?_; rotate_left; (obtain ⟨hu0, hu1, hu2, hu3⟩ := hu; go_simp; try with_reducible rfl); simp only [Act.put, List.setIfInBounds_toArray, List.set_cons_zero, List.set_cons_succ]
    refine Lex3.run_eff (by rfl) (by rfl) (fun n' K' hK => ?_)
    go_simp
    refine (laySelf bp gp W H cp zs a b _ (hp.drewN _)).mono ?_
    rintro e w3 ⟨rfl, hp3, hg3⟩
    obtain ⟨h3, b3, f3⟩ := (h1.drewN (1 + n')).setP he1 hg3 hp3
    have he3 : (es.set k ⟨bp, gp, cp, bq, gq, cq, W, H, laidZ W H W H a b zs zs, zs⟩)[k]? = some ⟨bp, gp, cp, bq, gq, cq, W, H, laidZ W H W H a b zs zs, zs⟩ := List.getElem?_set_self (by omega)
    have hn3 : (es.set k ⟨bp, gp, cp, bq, gq, cq, W, H, laidZ W H W H a b zs zs, zs⟩).length = n := by rw [List.length_set]; exact hn
    dsimp only at h3
    rw [← mapP_set (z1 := laidZ W H W H a b zs zs) (z2 := zs) he1, ← mapQ_set (z1 := laidZ W H W H a b zs zs) (z2 := zs) he1] at h3
    dsimp only at h3
    have t3 := f3.blk (t1.drewN (1 + n')) hrt
    have hrt3 := f3.role t1.lt hrt
    refine hK _ _ ⟨(h3).p0, (h3).cellP hn3 he3, by rw [(t3).cell]; rfl, by rw [(t3).cell]; rfl⟩ ?_
    clear hK K'
    try simp only [Act.put, List.setIfInBounds_toArray, List.set_cons_zero, List.set_cons_succ]

    refine Lex3.run_nil (fun n3 => ?_)
    replace h3 := h3.drewN n3
    replace t3 := t3.drewN n3
    replace b3 : Below base w2 (w3.drewN n3) := below_drewN ((below_drewN (Below.refl _ _) (1 + n')).trans b3) n3
    generalize (w3.drewN n3) = w4 at h3 t3 b3 ⊢
    clear f3 hp3 hg3 c0 c1 e1 e2 e3 e4 o0 o3 o4 hp hq
    have c1 := h3.p1
    have e2 := h3.cellQ hn3 he3
    have hq := (h3.ent k _ he3).1.2
    dsimp only at e2 hq
    have o3 : w4.cell? ⟨t, 3, none⟩ = some (.int .i64 a) := by rw [t3.cell]; rfl
    have o4 : w4.cell? ⟨t, 4, none⟩ = some (.int .i64 b) := by rw [t3.cell]; rfl
    go_upto_region 17 with fail
    refine Lex3.wp_region_lex [] (fun u => u.cell? ⟨B, 1, none⟩ = some (.slice (some ⟨gQ, 0, none⟩) n cQ) ∧ u.cell? ⟨gQ, k, none⟩ = some (.pointer (some ⟨bq, 0, none⟩)) ∧ u.cell? ⟨t, 3, none⟩ = some (.int .i64 a) ∧ u.cell? ⟨t, 4, none⟩ = some (.int .i64 b)) (fun u n h => h) ⟨c1, e2, o3, o4⟩ (by kernel_rfl) (by kernel_rfl) ?_
    refine Lex3.run_free (v := ?_) (by rfl) (by rfl) (fun u => ?_) ?_; rotate_left; (go_simp; try with_reducible rfl); simp only [Act.put, List.setIfInBounds_toArray, List.set_cons_zero, List.set_cons_succ]
    refine Lex3.run_free (v := ?_) (by rfl) (by rfl) (fun u => ?_) ?_; rotate_left; (go_simp; try with_reducible rfl); simp only [Act.put, List.setIfInBounds_toArray, List.set_cons_zero, List.set_cons_succ]
    refine Lex3.run_free (v := ?_) (by rfl) (by rfl) (fun u => ?_) ?_; rotate_left; (go_simp; try with_reducible rfl); simp only [Act.put, List.setIfInBounds_toArray, List.set_cons_zero, List.set_cons_succ]
    refine Lex3.run_load (v := ?_) (by rfl) (by rfl) (fun u hu => ?_) ?_; rotate_left; (obtain ⟨hu0, hu1, hu2, hu3⟩ := hu; go_simp; try with_reducible rfl); simp only [Act.put, List.setIfInBounds_toArray, List.set_cons_zero, List.set_cons_succ]
    refine Lex3.run_free (v := ?_) (by rfl) (by rfl) (fun u => ?_) ?_; rotate_left; (go_simp; try with_reducible rfl); simp only [Act.put, List.setIfInBounds_toArray, List.set_cons_zero, List.set_cons_succ]
    refine Lex3.run_free (v := ?_) (by rfl) (by rfl) (fun u => ?_) ?_; rotate_left; (go_simp; try with_reducible rfl); simp only [Act.put, List.setIfInBounds_toArray, List.set_cons_zero, List.set_cons_succ]
    refine Lex3.run_load (v := ?_) (by rfl) (by rfl) (fun u hu => ?_) ?_; rotate_left; (obtain ⟨hu0, hu1, hu2, hu3⟩ := hu; go_simp; try with_reducible rfl); simp only [Act.put, List.setIfInBounds_toArray, List.set_cons_zero, List.set_cons_succ]
    refine Lex3.run_free (v := ?_) (by rfl) (by rfl) (fun u => ?_) ?_; rotate_left; (go_simp; try with_reducible rfl); simp only [Act.put, List.setIfInBounds_toArray, List.set_cons_zero, List.set_cons_succ]
    refine Lex3.run_free (v := ?_) (by rfl) (by rfl) (fun u => ?_) ?_; rotate_left; (go_simp; try with_reducible rfl); simp only [Act.put, List.setIfInBounds_toArray, List.set_cons_zero, List.set_cons_succ]
    refine Lex3.run_free (v := ?_) (by rfl) (by rfl) (fun u => ?_) ?_; rotate_left; (go_simp; try with_reducible rfl); simp only [Act.put, List.setIfInBounds_toArray, List.set_cons_zero, List.set_cons_succ]
    refine Lex3.run_load (v := ?_) (by rfl) (by rfl) (fun u hu => ?_) ?_; rotate_left; (obtain ⟨hu0, hu1, hu2, hu3⟩ := hu; go_simp; try with_reducible rfl); simp only [Act.put, List.setIfInBounds_toArray, List.set_cons_zero, List.set_cons_succ]
    refine Lex3.run_free (v := ?_) (by rfl) (by rfl) (fun u => ?_) ?_; rotate_left; (go_simp; try with_reducible rfl); simp only [Act.put, List.setIfInBounds_toArray, List.set_cons_zero, List.set_cons_succ]
    refine Lex3.run_free (v := ?_) (by rfl) (by rfl) (fun u => ?_) ?_; rotate_left; (go_simp; try with_reducible rfl); simp only [Act.put, List.setIfInBounds_toArray, List.set_cons_zero, List.set_cons_succ]
    refine Lex3.run_load (v := ?_) (by rfl) (by rfl) (fun u hu => ?_) ?_; rotate_left; (obtain ⟨hu0, hu1, hu2, hu3⟩ := hu; go_simp; try with_reducible rfl); simp only [Act.put, List.setIfInBounds_toArray, List.set_cons_zero, List.set_cons_succ]
    refine Lex3.run_free (v := ?_) (by rfl) (by rfl) (fun u => ?_) ?_; rotate_left; (go_simp; try with_reducible rfl); simp only [Act.put, List.setIfInBounds_toArray, List.set_cons_zero, List.set_cons_succ]
    refine Lex3.run_load (v := ?_) (by rfl) (by rfl) (fun u hu => ?_) ?_; rotate_left; (obtain ⟨hu0, hu1, hu2, hu3⟩ := hu; go_simp; try with_reducible rfl); simp only [Act.put, List.setIfInBounds_toArray, List.set_cons_zero, List.set_cons_succ]
    refine Lex3.run_free (v := ?_) (by rfl) (by rfl) (fun u => ?_) ?_; rotate_left; (go_simp; try with_reducible rfl); simp only [Act.put, List.setIfInBounds_toArray, List.set_cons_zero, List.set_cons_succ]
    refine Lex3.run_load (v := ?_) (by rfl) (by rfl) (fun u hu => ?_) ?_; rotate_left; (obtain ⟨hu0, hu1, hu2, hu3⟩ := hu; go_simp; try with_reducible rfl); simp only [Act.put, List.setIfInBounds_toArray, List.set_cons_zero, List.set_cons_succ]
    refine Lex3.run_eff (by rfl) (by rfl) (fun n' K' hK => ?_)
    go_simp
    refine (lay_any bq gq W H cq bq gq W H cq zs zs a b _ (hq.drewN _) (hq.drewN _) (fun e => by have := rr3; have := rr4; rw [e] at rr3; omega) ha hb).mono ?_
    rintro e w5 ⟨rfl, hp5, hg5⟩
    obtain ⟨h5, b5, f5⟩ := (h3.drewN (1 + n')).setQ he3 hg5 hp5
    dsimp only at h5
    rw [List.set_set] at h5
    have he5 : (es.set k ⟨bp, gp, cp, bq, gq, cq, W, H, laidZ W H W H a b zs zs, laidZ W H W H a b zs zs⟩)[k]? = some ⟨bp, gp, cp, bq, gq, cq, W, H, laidZ W H W H a b zs zs, laidZ W H W H a b zs zs⟩ := List.getElem?_set_self (by omega)
    have hn5 : (es.set k ⟨bp, gp, cp, bq, gq, cq, W, H, laidZ W H W H a b zs zs, laidZ W H W H a b zs zs⟩).length = n := by rw [List.length_set]; exact hn
    have em : (es.set k ⟨bp, gp, cp, bq, gq, cq, W, H, laidZ W H W H a b zs zs, zs⟩).map pP = (es.set k ⟨bp, gp, cp, bq, gq, cq, W, H, laidZ W H W H a b zs zs, laidZ W H W H a b zs zs⟩).map pP := by
      have h7 := mapP_set (z1 := laidZ W H W H a b zs zs) (z2 := zs) he1
      have h8 := mapP_set (z1 := laidZ W H W H a b zs zs) (z2 := laidZ W H W H a b zs zs) he1
      dsimp only at h7 h8
      rw [h7, h8]
    have em2 : (es.set k ⟨bp, gp, cp, bq, gq, cq, W, H, laidZ W H W H a b zs zs, zs⟩).map pQ = (es.set k ⟨bp, gp, cp, bq, gq, cq, W, H, laidZ W H W H a b zs zs, laidZ W H W H a b zs zs⟩).map pQ := by
      have h7 := mapQ_set (z1 := laidZ W H W H a b zs zs) (z2 := zs) he1
      have h8 := mapQ_set (z1 := laidZ W H W H a b zs zs) (z2 := laidZ W H W H a b zs zs) he1
      dsimp only at h7 h8
      rw [h7, h8]
    rw [em, em2] at h5
    have t5 := f5.blk (t3.drewN (1 + n')) hrt3
    have bb5 : Below base w2 w5 := (below_drewN b3 (1 + n')).trans b5
    refine hK _ _ ⟨(h5).p1, (h5).cellQ hn5 he5, by rw [(t5).cell]; rfl, by rw [(t5).cell]; rfl⟩ ?_
    clear c1 e2 o3 o4 h3 t3
    clear hK K'
    try simp only [Act.put, List.setIfInBounds_toArray, List.set_cons_zero, List.set_cons_succ]

    refine Lex3.run_nil (fun n3 => ?_)
    go_wp2_with fail
    refine bodyPost_end (results_none rfl _ _ _) rfl ?_
    exact Goes.same (below_drewN (b1.trans bb5) _) (h5.drewN _) (same_set hz (by rfl)) hn5
  · go_upto_region 16 with fail
    refine Lex3.wp_region_lex [] (fun u => u.cell? ⟨B, 0, none⟩ = some (.slice (some ⟨gP, 0, none⟩) n cP) ∧ u.cell? ⟨gP, k, none⟩ = some (.pointer (some ⟨bp, 0, none⟩)) ∧ u.cell? ⟨gP, j, none⟩ = some (.pointer (some ⟨bp2, 0, none⟩)) ∧ u.cell? ⟨t, 3, none⟩ = some (.int .i64 a) ∧ u.cell? ⟨t, 4, none⟩ = some (.int .i64 b)) (fun u n h => h) ⟨c0, e1, e3, o3, o4⟩ (by kernel_rfl) (by kernel_rfl) ?_
    refine Lex3.run_free (v := ?_) (by rfl) (by rfl) (fun u => ?_) ?_; rotate_left; (go_simp; try with_reducible rfl); simp only [Act.put, List.setIfInBounds_toArray, List.set_cons_zero, List.set_cons_succ]
    refine Lex3.run_free (v := ?_) (by rfl) (by rfl) (fun u => ?_) ?_; rotate_left; (go_simp; try with_reducible rfl); simp only [Act.put, List.setIfInBounds_toArray, List.set_cons_zero, List.set_cons_succ]
    refine Lex3.run_free (v := ?_) (by rfl) (by rfl) (fun u => ?_) ?_; rotate_left; (go_simp; try with_reducible rfl); simp only [Act.put, List.setIfInBounds_toArray, List.set_cons_zero, List.set_cons_succ]
    refine Lex3.run_load (v := ?_) (by rfl) (by rfl) (fun u hu => ?_) ?_; rotate_left; (obtain ⟨hu0, hu1, hu2, hu3, hu4⟩ := hu; go_simp; try with_reducible rfl); simp only [Act.put, List.setIfInBounds_toArray, List.set_cons_zero, List.set_cons_succ]
    refine Lex3.run_free (v := ?_) (by rfl) (by rfl) (fun u => ?_) ?_; rotate_left; (go_simp; try with_reducible rfl); simp only [Act.put, List.setIfInBounds_toArray, List.set_cons_zero, List.set_cons_succ]
    refine Lex3.run_free (v := ?_) (by rfl) (by rfl) (fun u => ?_) ?_; rotate_left; (go_simp; try with_reducible rfl); simp only [Act.put, List.setIfInBounds_toArray, List.set_cons_zero, List.set_cons_succ]
    refine Lex3.run_load (v := ?_) (by rfl) (by rfl) (fun u hu => ?_) ?_; rotate_left; (obtain ⟨hu0, hu1, hu2, hu3, hu4⟩ := hu; go_simp; try with_reducible rfl); simp only [Act.put, List.setIfInBounds_toArray, List.set_cons_zero, List.set_cons_succ]
    refine Lex3.run_free (v := ?_) (by rfl) (by rfl) (fun u => ?_) ?_; rotate_left; (go_simp; try with_reducible rfl); simp only [Act.put, List.setIfInBounds_toArray, List.set_cons_zero, List.set_cons_succ]
    refine Lex3.run_free (v := ?_) (by rfl) (by rfl) (fun u => ?_) ?_; rotate_left; (go_simp; try with_reducible rfl); simp only [Act.put, List.setIfInBounds_toArray, List.set_cons_zero, List.set_cons_succ]
    refine Lex3.run_free (v := ?_) (by rfl) (by rfl) (fun u => ?_) ?_; rotate_left; (go_simp; try with_reducible rfl); simp only [Act.put, List.setIfInBounds_toArray, List.set_cons_zero, List.set_cons_succ]
    refine Lex3.run_load (v := ?_) (by rfl) (by rfl) (fun u hu => ?_) ?_; rotate_left; (obtain ⟨hu0, hu1, hu2, hu3, hu4⟩ := hu; go_simp; try with_reducible rfl); simp only [Act.put, List.setIfInBounds_toArray, List.set_cons_zero, List.set_cons_succ]
    refine Lex3.run_free (v := ?_) (by rfl) (by rfl) (fun u => ?_) ?_; rotate_left; (go_simp; try with_reducible rfl); simp only [Act.put, List.setIfInBounds_toArray, List.set_cons_zero, List.set_cons_succ]
    refine Lex3.run_free (v := ?_) (by rfl) (by rfl) (fun u => ?_) ?_; rotate_left; (go_simp; try with_reducible rfl); simp only [Act.put, List.setIfInBounds_toArray, List.set_cons_zero, List.set_cons_succ]
    refine Lex3.run_load (v := ?_) (by rfl) (by rfl) (fun u hu => ?_) ?_; rotate_left; (obtain ⟨hu0, hu1, hu2, hu3, hu4⟩ := hu; go_simp; try with_reducible rfl); simp only [Act.put, List.setIfInBounds_toArray, List.set_cons_zero, List.set_cons_succ]
    refine Lex3.run_free (v := ?_) (by rfl) (by rfl) (fun u => ?_) ?_; rotate_left; (go_simp; try with_reducible rfl); simp only [Act.put, List.setIfInBounds_toArray, List.set_cons_zero, List.set_cons_succ]
    refine Lex3.run_load (v := ?_) (by rfl) (by rfl) (fun u hu => ?_) ?_; rotate_left; (obtain ⟨hu0, hu1, hu2, hu3, hu4⟩ := hu; go_simp; try with_reducible rfl); simp only [Act.put, List.setIfInBounds_toArray, List.set_cons_zero, List.set_cons_succ]
    refine Lex3.run_free (v := ?_) (by rfl) (by rfl) (fun u => ?_) ?_; rotate_left; (go_simp; try with_reducible rfl); simp only [Act.put, List.setIfInBounds_toArray, List.set_cons_zero, List.set_cons_succ]
    refine Lex3.run_load (v := ?_) (by rfl) (by rfl) (fun u hu => ?_) ?_; rotate_left; (obtain ⟨hu0, hu1, hu2, hu3, hu4⟩ := hu; go_simp; try with_reducible rfl); simp only [Act.put, List.setIfInBounds_toArray, List.set_cons_zero, List.set_cons_succ]
    refine Lex3.run_eff (by rfl) (by rfl) (fun n' K' hK => ?_)
    go_simp
    refine (layI bp gp W H cp bp2 gp2 W2 H2 cp2 zs zs2 a b _ (hp.drewN _) (hp2.drewN _) (fun e => by rw [e] at ss1; omega) (fun e => by rw [e] at ss2; omega)).mono ?_
    rintro e w3 ⟨rfl, hp3, hg3⟩
    obtain ⟨h3, b3, f3⟩ := (h1.drewN (1 + n')).setP he1 hg3 hp3
    have he3 : (es.set k ⟨bp, gp, cp, bq, gq, cq, W, H, laidZ W H W2 H2 a b zs zs2, zs⟩)[k]? = some ⟨bp, gp, cp, bq, gq, cq, W, H, laidZ W H W2 H2 a b zs zs2, zs⟩ := List.getElem?_set_self (by omega)
    have he4 : (es.set k ⟨bp, gp, cp, bq, gq, cq, W, H, laidZ W H W2 H2 a b zs zs2, zs⟩)[j]? = some ⟨bp2, gp2, cp2, bq2, gq2, cq2, W2, H2, zs2, zs2⟩ := by rw [List.getElem?_set_ne hkj]; exact he2
    have hn3 : (es.set k ⟨bp, gp, cp, bq, gq, cq, W, H, laidZ W H W2 H2 a b zs zs2, zs⟩).length = n := by rw [List.length_set]; exact hn
    dsimp only at h3
    rw [← mapP_set (z1 := laidZ W H W2 H2 a b zs zs2) (z2 := zs) he1, ← mapQ_set (z1 := laidZ W H W2 H2 a b zs zs2) (z2 := zs) he1] at h3
    dsimp only at h3
    have t3 := f3.blk (t1.drewN (1 + n')) hrt
    have hrt3 := f3.role t1.lt hrt
    refine hK _ _ ⟨(h3).p0, (h3).cellP hn3 he3, (h3).cellP hn3 he4, by rw [(t3).cell]; rfl, by rw [(t3).cell]; rfl⟩ ?_
    clear hK K'
    try simp only [Act.put, List.setIfInBounds_toArray, List.set_cons_zero, List.set_cons_succ]

    refine Lex3.run_nil (fun n3 => ?_)
    replace h3 := h3.drewN n3
    replace t3 := t3.drewN n3
    replace b3 : Below base w2 (w3.drewN n3) := below_drewN ((below_drewN (Below.refl _ _) (1 + n')).trans b3) n3
    generalize (w3.drewN n3) = w4 at h3 t3 b3 ⊢
    clear f3 hp3 hg3 c0 c1 e1 e2 e3 e4 o0 o3 o4 hp hq hp2 hq2
    have c1 := h3.p1
    have e2 := h3.cellQ hn3 he3
    have hq := (h3.ent k _ he3).1.2
    dsimp only at e2 hq
    have e4 := h3.cellQ hn3 he4
    have hq2 := (h3.ent j _ he4).1.2
    dsimp only at e4 hq2
    have o3 : w4.cell? ⟨t, 3, none⟩ = some (.int .i64 a) := by rw [t3.cell]; rfl
    have o4 : w4.cell? ⟨t, 4, none⟩ = some (.int .i64 b) := by rw [t3.cell]; rfl
    go_upto_region 17 with fail
    refine Lex3.wp_region_lex [] (fun u => u.cell? ⟨B, 1, none⟩ = some (.slice (some ⟨gQ, 0, none⟩) n cQ) ∧ u.cell? ⟨gQ, k, none⟩ = some (.pointer (some ⟨bq, 0, none⟩)) ∧ u.cell? ⟨gQ, j, none⟩ = some (.pointer (some ⟨bq2, 0, none⟩)) ∧ u.cell? ⟨t, 3, none⟩ = some (.int .i64 a) ∧ u.cell? ⟨t, 4, none⟩ = some (.int .i64 b)) (fun u n h => h) ⟨c1, e2, e4, o3, o4⟩ (by kernel_rfl) (by kernel_rfl) ?_
    refine Lex3.run_free (v := ?_) (by rfl) (by rfl) (fun u => ?_) ?_; rotate_left; (go_simp; try with_reducible rfl); simp only [Act.put, List.setIfInBounds_toArray, List.set_cons_zero, List.set_cons_succ]
    refine Lex3.run_free (v := ?_) (by rfl) (by rfl) (fun u => ?_) ?_; rotate_left; (go_simp; try with_reducible rfl); simp only [Act.put, List.setIfInBounds_toArray, List.set_cons_zero, List.set_cons_succ]
    refine Lex3.run_free (v := ?_) (by rfl) (by rfl) (fun u => ?_) ?_; rotate_left; (go_simp; try with_reducible rfl); simp only [Act.put, List.setIfInBounds_toArray, List.set_cons_zero, List.set_cons_succ]
    refine Lex3.run_load (v := ?_) (by rfl) (by rfl) (fun u hu => ?_) ?_; rotate_left; (obtain ⟨hu0, hu1, hu2, hu3, hu4⟩ := hu; go_simp; try with_reducible rfl); simp only [Act.put, List.setIfInBounds_toArray, List.set_cons_zero, List.set_cons_succ]
    refine Lex3.run_free (v := ?_) (by rfl) (by rfl) (fun u => ?_) ?_; rotate_left; (go_simp; try with_reducible rfl); simp only [Act.put, List.setIfInBounds_toArray, List.set_cons_zero, List.set_cons_succ]
    refine Lex3.run_free (v := ?_) (by rfl) (by rfl) (fun u => ?_) ?_; rotate_left; (go_simp; try with_reducible rfl); simp only [Act.put, List.setIfInBounds_toArray, List.set_cons_zero, List.set_cons_succ]
    refine Lex3.run_load (v := ?_) (by rfl) (by rfl) (fun u hu => ?_) ?_; rotate_left; (obtain ⟨hu0, hu1, hu2, hu3, hu4⟩ := hu; go_simp; try with_reducible rfl); simp only [Act.put, List.setIfInBounds_toArray, List.set_cons_zero, List.set_cons_succ]
    refine Lex3.run_free (v := ?_) (by rfl) (by rfl) (fun u => ?_) ?_; rotate_left; (go_simp; try with_reducible rfl); simp only [Act.put, List.setIfInBounds_toArray, List.set_cons_zero, List.set_cons_succ]
    refine Lex3.run_free (v := ?_) (by rfl) (by rfl) (fun u => ?_) ?_; rotate_left; (go_simp; try with_reducible rfl); simp only [Act.put, List.setIfInBounds_toArray, List.set_cons_zero, List.set_cons_succ]
    refine Lex3.run_free (v := ?_) (by rfl) (by rfl) (fun u => ?_) ?_; rotate_left; (go_simp; try with_reducible rfl); simp only [Act.put, List.setIfInBounds_toArray, List.set_cons_zero, List.set_cons_succ]
    refine Lex3.run_load (v := ?_) (by rfl) (by rfl) (fun u hu => ?_) ?_; rotate_left; (obtain ⟨hu0, hu1, hu2, hu3, hu4⟩ := hu; go_simp; try with_reducible rfl); simp only [Act.put, List.setIfInBounds_toArray, List.set_cons_zero, List.set_cons_succ]
    refine Lex3.run_free (v := ?_) (by rfl) (by rfl) (fun u => ?_) ?_; rotate_left; (go_simp; try with_reducible rfl); simp only [Act.put, List.setIfInBounds_toArray, List.set_cons_zero, List.set_cons_succ]
    refine Lex3.run_free (v := ?_) (by rfl) (by rfl) (fun u => ?_) ?_; rotate_left; (go_simp; try with_reducible rfl); simp only [Act.put, List.setIfInBounds_toArray, List.set_cons_zero, List.set_cons_succ]
    refine Lex3.run_load (v := ?_) (by rfl) (by rfl) (fun u hu => ?_) ?_; rotate_left; (obtain ⟨hu0, hu1, hu2, hu3, hu4⟩ := hu; go_simp; try with_reducible rfl); simp only [Act.put, List.setIfInBounds_toArray, List.set_cons_zero, List.set_cons_succ]
    refine Lex3.run_free (v := ?_) (by rfl) (by rfl) (fun u => ?_) ?_; rotate_left; (go_simp; try with_reducible rfl); simp only [Act.put, List.setIfInBounds_toArray, List.set_cons_zero, List.set_cons_succ]
    refine Lex3.run_load (v := ?_) (by rfl) (by rfl) (fun u hu => ?_) ?_; rotate_left; (obtain ⟨hu0, hu1, hu2, hu3, hu4⟩ := hu; go_simp; try with_reducible rfl); simp only [Act.put, List.setIfInBounds_toArray, List.set_cons_zero, List.set_cons_succ]
    refine Lex3.run_free (v := ?_) (by rfl) (by rfl) (fun u => ?_) ?_; rotate_left; (go_simp; try with_reducible rfl); simp only [Act.put, List.setIfInBounds_toArray, List.set_cons_zero, List.set_cons_succ]
    refine Lex3.run_load (v := ?_) (by rfl) (by rfl) (fun u hu => ?_) ?_; rotate_left; (obtain ⟨hu0, hu1, hu2, hu3, hu4⟩ := hu; go_simp; try with_reducible rfl); simp only [Act.put, List.setIfInBounds_toArray, List.set_cons_zero, List.set_cons_succ]
    refine Lex3.run_eff (by rfl) (by rfl) (fun n' K' hK => ?_)
    go_simp
    refine (lay_any bq gq W H cq bq2 gq2 W2 H2 cq2 zs zs2 a b _ (hq.drewN _) (hq2.drewN _) (fun e => by rw [e] at ss3; omega) ha hb).mono ?_
    rintro e w5 ⟨rfl, hp5, hg5⟩
    obtain ⟨h5, b5, f5⟩ := (h3.drewN (1 + n')).setQ he3 hg5 hp5
    dsimp only at h5
    rw [List.set_set] at h5
    have he5 : (es.set k ⟨bp, gp, cp, bq, gq, cq, W, H, laidZ W H W2 H2 a b zs zs2, laidZ W H W2 H2 a b zs zs2⟩)[k]? = some ⟨bp, gp, cp, bq, gq, cq, W, H, laidZ W H W2 H2 a b zs zs2, laidZ W H W2 H2 a b zs zs2⟩ := List.getElem?_set_self (by omega)
    have he6 : (es.set k ⟨bp, gp, cp, bq, gq, cq, W, H, laidZ W H W2 H2 a b zs zs2, laidZ W H W2 H2 a b zs zs2⟩)[j]? = some ⟨bp2, gp2, cp2, bq2, gq2, cq2, W2, H2, zs2, zs2⟩ := by rw [List.getElem?_set_ne hkj]; exact he2
    have hn5 : (es.set k ⟨bp, gp, cp, bq, gq, cq, W, H, laidZ W H W2 H2 a b zs zs2, laidZ W H W2 H2 a b zs zs2⟩).length = n := by rw [List.length_set]; exact hn
    have em : (es.set k ⟨bp, gp, cp, bq, gq, cq, W, H, laidZ W H W2 H2 a b zs zs2, zs⟩).map pP = (es.set k ⟨bp, gp, cp, bq, gq, cq, W, H, laidZ W H W2 H2 a b zs zs2, laidZ W H W2 H2 a b zs zs2⟩).map pP := by
      have h7 := mapP_set (z1 := laidZ W H W2 H2 a b zs zs2) (z2 := zs) he1
      have h8 := mapP_set (z1 := laidZ W H W2 H2 a b zs zs2) (z2 := laidZ W H W2 H2 a b zs zs2) he1
      dsimp only at h7 h8
      rw [h7, h8]
    have em2 : (es.set k ⟨bp, gp, cp, bq, gq, cq, W, H, laidZ W H W2 H2 a b zs zs2, zs⟩).map pQ = (es.set k ⟨bp, gp, cp, bq, gq, cq, W, H, laidZ W H W2 H2 a b zs zs2, laidZ W H W2 H2 a b zs zs2⟩).map pQ := by
      have h7 := mapQ_set (z1 := laidZ W H W2 H2 a b zs zs2) (z2 := zs) he1
      have h8 := mapQ_set (z1 := laidZ W H W2 H2 a b zs zs2) (z2 := laidZ W H W2 H2 a b zs zs2) he1
      dsimp only at h7 h8
      rw [h7, h8]
    rw [em, em2] at h5
    have t5 := f5.blk (t3.drewN (1 + n')) hrt3
    have bb5 : Below base w2 w5 := (below_drewN b3 (1 + n')).trans b5
    refine hK _ _ ⟨(h5).p1, (h5).cellQ hn5 he5, (h5).cellQ hn5 he6, by rw [(t5).cell]; rfl, by rw [(t5).cell]; rfl⟩ ?_
    clear c1 e2 o3 o4 h3 t3
    clear hK K'
    try simp only [Act.put, List.setIfInBounds_toArray, List.set_cons_zero, List.set_cons_succ]

    refine Lex3.run_nil (fun n3 => ?_)
    go_wp2_with fail
    refine bodyPost_end (results_none rfl _ _ _) rfl ?_
    exact Goes.same (below_drewN (b1.trans bb5) _) (h5.drewN _) (same_set hz (by rfl)) hn5

set_option maxRecDepth 100000 in
set_option maxHeartbeats 16000000 in
theorem one_cut (base B n : Nat) (r : Nat → Nat) (vp vq : Value) (es : List Ent) (I J a b c d v : Int) (A : Option Addr) (m mc : Nat) (w : World) (h : Book base w B r vp vq (es.map pP) (es.map pQ) es) (hz : ∀ e ∈ es, e.zp = e.zq) (hn : es.length = n) (hm : n ≤ 8388608) (h1n : 1 ≤ n) :
    Calls Try.prog 74 #[.pointer (some ⟨B, 0, none⟩), .agg #[.int .i64 6, .int .i64 I, .int .i64 J, .int .i64 a, .int .i64 b, .int .i64 c, .int .i64 d, .int .i64 v, .slice A m mc]] w (Goes base B n w) := by
  have hsee : ∃ gP cP gQ cQ, vp = .slice (some ⟨gP, 0, none⟩) n cP ∧ vq = .slice (some ⟨gQ, 0, none⟩) n cQ := by
    obtain ⟨e, he⟩ : ∃ e, es[0]? = some e := ⟨_, List.getElem?_eq_getElem (by omega)⟩
    obtain ⟨gP, cP, gQ, cQ, q1, q2, _⟩ := h.see n hn he
    exact ⟨gP, cP, gQ, cQ, q1, q2⟩
  obtain ⟨gP, cP, gQ, cQ, rfl, rfl⟩ := hsee
  obtain ⟨r1, h1, f1, hrt, t1, b1⟩ := h.box #[.int .i64 6, .int .i64 I, .int .i64 J, .int .i64 a, .int .i64 b, .int .i64 c, .int .i64 d, .int .i64 v, .slice A m mc] 119
  go_enter Try.func74, Try.ntmps74
  go_upto_region 1 with fail
  generalize (w.alloc (.cells #[.int .i64 6, .int .i64 I, .int .i64 J, .int .i64 a, .int .i64 b, .int .i64 c, .int .i64 d, .int .i64 v, .slice A m mc] 119)) = w1 at h1 f1 t1 b1 ⊢
  generalize w.heap.size = t at hrt t1 ⊢
  have o0 : w1.cell? ⟨t, 0, none⟩ = some (.int .i64 6) := by rw [t1.cell]; rfl
  have o1 : w1.cell? ⟨t, 1, none⟩ = some (.int .i64 I) := by rw [t1.cell]; rfl
  have o2 : w1.cell? ⟨t, 2, none⟩ = some (.int .i64 J) := by rw [t1.cell]; rfl
  have o3 : w1.cell? ⟨t, 3, none⟩ = some (.int .i64 a) := by rw [t1.cell]; rfl
  have o4 : w1.cell? ⟨t, 4, none⟩ = some (.int .i64 b) := by rw [t1.cell]; rfl
  have o5 : w1.cell? ⟨t, 5, none⟩ = some (.int .i64 c) := by rw [t1.cell]; rfl
  have o6 : w1.cell? ⟨t, 6, none⟩ = some (.int .i64 d) := by rw [t1.cell]; rfl
  have c0 := h1.p0
  have hkn : ((n : Int) == 0) = false := by simp; omega
  go_upto_region 4 with fail
  refine Lex3.wp_region_lex [] (fun u => u.cell? ⟨B, 0, none⟩ = some (.slice (some ⟨gP, 0, none⟩) n cP) ∧ u.cell? ⟨t, 1, none⟩ = some (.int .i64 I)) (fun u n h => h) ⟨c0, o1⟩ (by kernel_rfl) (by kernel_rfl) ?_
  refine Lex3.run_free (v := ?_) (by rfl) (by rfl) (fun u => ?_) ?_; rotate_left; (go_simp; try with_reducible rfl); simp only [Act.put, List.setIfInBounds_toArray, List.set_cons_zero, List.set_cons_succ]
  refine Lex3.run_load (v := ?_) (by rfl) (by rfl) (fun u hu => ?_) ?_; rotate_left; (obtain ⟨hu0, hu1⟩ := hu; go_simp; try with_reducible rfl); simp only [Act.put, List.setIfInBounds_toArray, List.set_cons_zero, List.set_cons_succ]
  refine Lex3.run_free (v := ?_) (by rfl) (by rfl) (fun u => ?_) ?_; rotate_left; (go_simp; try with_reducible rfl); simp only [Act.put, List.setIfInBounds_toArray, List.set_cons_zero, List.set_cons_succ]
  refine Lex3.run_free (v := ?_) (by rfl) (by rfl) (fun u => ?_) ?_; rotate_left; (go_simp; try with_reducible rfl); simp only [Act.put, List.setIfInBounds_toArray, List.set_cons_zero, List.set_cons_succ]
  refine Lex3.run_free (v := ?_) (by rfl) (by rfl) (fun u => ?_) ?_; rotate_left; (go_simp; try with_reducible rfl); simp only [Act.put, List.setIfInBounds_toArray, List.set_cons_zero, List.set_cons_succ]
  refine Lex3.run_load (v := ?_) (by rfl) (by rfl) (fun u hu => ?_) ?_; rotate_left; (obtain ⟨hu0, hu1⟩ := hu; go_simp; try with_reducible rfl); simp only [Act.put, List.setIfInBounds_toArray, List.set_cons_zero, List.set_cons_succ]
  refine Lex3.run_free (v := ?_) (by rfl) (by rfl) (fun u => ?_) ?_; rotate_left; (go_simp; try with_reducible rfl); simp only [Act.put, List.setIfInBounds_toArray, List.set_cons_zero, List.set_cons_succ]
  refine Lex3.run_eff (by rfl) (by rfl) (fun n' K' hK => ?_)
  go_simp
  refine (Go.Proofs.Ytlbocfinjlkebaa.Pieces.at_any I n _ (by omega) (by omega)).mono ?_
  rintro e w' ⟨v0, rfl, v1, v2, rfl⟩
  obtain ⟨k, rfl⟩ := Int.eq_ofNat_of_zero_le v1
  have kl : k < n := by omega
  obtain ⟨e1, he1⟩ : ∃ e, es[k]? = some e := ⟨_, List.getElem?_eq_getElem (by omega)⟩
  refine hK _ _ ⟨c0, o1⟩ ?_
  clear hK K' v1 v2
  try simp only [Act.put, List.setIfInBounds_toArray, List.set_cons_zero, List.set_cons_succ]
  refine Lex3.run_free (v := ?_) (by rfl) (by rfl) (fun u => ?_) ?_; rotate_left; (go_simp; try with_reducible rfl); simp only [Act.put, List.setIfInBounds_toArray, List.set_cons_zero, List.set_cons_succ]
  refine Lex3.run_nil (fun n3 => ?_)
  try simp only [World.drewN_drewN]
  generalize hGe1 : 1 + n' + n3 = Ne1
  clear hGe1
  go_upto_region 5 with fail
  refine Lex3.wp_region_lex [] (fun u => u.cell? ⟨B, 0, none⟩ = some (.slice (some ⟨gP, 0, none⟩) n cP) ∧ u.cell? ⟨t, 2, none⟩ = some (.int .i64 J)) (fun u n h => h) ⟨c0, o2⟩ (by kernel_rfl) (by kernel_rfl) ?_
  refine Lex3.run_free (v := ?_) (by rfl) (by rfl) (fun u => ?_) ?_; rotate_left; (go_simp; try with_reducible rfl); simp only [Act.put, List.setIfInBounds_toArray, List.set_cons_zero, List.set_cons_succ]
  refine Lex3.run_load (v := ?_) (by rfl) (by rfl) (fun u hu => ?_) ?_; rotate_left; (obtain ⟨hu0, hu1⟩ := hu; go_simp; try with_reducible rfl); simp only [Act.put, List.setIfInBounds_toArray, List.set_cons_zero, List.set_cons_succ]
  refine Lex3.run_free (v := ?_) (by rfl) (by rfl) (fun u => ?_) ?_; rotate_left; (go_simp; try with_reducible rfl); simp only [Act.put, List.setIfInBounds_toArray, List.set_cons_zero, List.set_cons_succ]
  refine Lex3.run_free (v := ?_) (by rfl) (by rfl) (fun u => ?_) ?_; rotate_left; (go_simp; try with_reducible rfl); simp only [Act.put, List.setIfInBounds_toArray, List.set_cons_zero, List.set_cons_succ]
  refine Lex3.run_free (v := ?_) (by rfl) (by rfl) (fun u => ?_) ?_; rotate_left; (go_simp; try with_reducible rfl); simp only [Act.put, List.setIfInBounds_toArray, List.set_cons_zero, List.set_cons_succ]
  refine Lex3.run_load (v := ?_) (by rfl) (by rfl) (fun u hu => ?_) ?_; rotate_left; (obtain ⟨hu0, hu1⟩ := hu; go_simp; try with_reducible rfl); simp only [Act.put, List.setIfInBounds_toArray, List.set_cons_zero, List.set_cons_succ]
  refine Lex3.run_free (v := ?_) (by rfl) (by rfl) (fun u => ?_) ?_; rotate_left; (go_simp; try with_reducible rfl); simp only [Act.put, List.setIfInBounds_toArray, List.set_cons_zero, List.set_cons_succ]
  refine Lex3.run_eff (by rfl) (by rfl) (fun n' K' hK => ?_)
  go_simp
  refine (Go.Proofs.Ytlbocfinjlkebaa.Pieces.at_any J n _ (by omega) (by omega)).mono ?_
  rintro e w' ⟨v0, rfl, v1, v2, rfl⟩
  obtain ⟨j, rfl⟩ := Int.eq_ofNat_of_zero_le v1
  have jl : j < n := by omega
  obtain ⟨e2, he2⟩ : ∃ e, es[j]? = some e := ⟨_, List.getElem?_eq_getElem (by omega)⟩
  refine hK _ _ ⟨c0, o2⟩ ?_
  clear hK K' v1 v2
  try simp only [Act.put, List.setIfInBounds_toArray, List.set_cons_zero, List.set_cons_succ]
  refine Lex3.run_free (v := ?_) (by rfl) (by rfl) (fun u => ?_) ?_; rotate_left; (go_simp; try with_reducible rfl); simp only [Act.put, List.setIfInBounds_toArray, List.set_cons_zero, List.set_cons_succ]
  refine Lex3.run_nil (fun n3 => ?_)
  try simp only [World.drewN_drewN]
  generalize hGe2 : Ne1 + 1 + n' + n3 = ND
  clear hGe2
  obtain ⟨bp, gp, cp, bq, gq, cq, W, H, zs, zt, rfl⟩ : ∃ bp gp cp bq gq cq W H zs zs', e1 = ⟨bp, gp, cp, bq, gq, cq, W, H, zs, zs'⟩ := ⟨_, _, _, _, _, _, _, _, _, _, rfl⟩
  obtain rfl : zs = zt := hz _ (List.mem_of_getElem? he1)
  obtain ⟨bp2, gp2, cp2, bq2, gq2, cq2, W2, H2, zs2, zt2, rfl⟩ : ∃ bp gp cp bq gq cq W H zs zs', e2 = ⟨bp, gp, cp, bq, gq, cq, W, H, zs, zs'⟩ := ⟨_, _, _, _, _, _, _, _, _, _, rfl⟩
  obtain rfl : zs2 = zt2 := hz _ (List.mem_of_getElem? he2)
  replace h1 := h1.drewN ND
  replace t1 := t1.drewN ND
  replace b1 := below_drewN b1 ND
  clear o0 o1 o2 c0 o3 o4 o5 o6
  generalize (w1.drewN ND) = w2 at h1 t1 b1 ⊢
  clear f1
  have c0 := h1.p0
  have c1 := h1.p1
  have e1 := h1.cellP hn he1
  have e2 := h1.cellQ hn he1
  have e3 := h1.cellP hn he2
  have e4 := h1.cellQ hn he2
  dsimp only at e1 e2 e3 e4
  obtain ⟨⟨hp, hq⟩, ⟨rr1, rr2, rr3, rr4⟩, _⟩ := h1.ent k _ he1
  obtain ⟨⟨hp2, hq2⟩, ⟨ss1, ss2, ss3, ss4⟩, _⟩ := h1.ent j _ he2
  dsimp only at hp hq hp2 hq2 rr1 rr2 rr3 rr4 ss1 ss2 ss3 ss4
  have o0 : w2.cell? ⟨t, 0, none⟩ = some (.int .i64 6) := by rw [t1.cell]; rfl
  have o3 : w2.cell? ⟨t, 3, none⟩ = some (.int .i64 a) := by rw [t1.cell]; rfl
  have o4 : w2.cell? ⟨t, 4, none⟩ = some (.int .i64 b) := by rw [t1.cell]; rfl
  have o5 : w2.cell? ⟨t, 5, none⟩ = some (.int .i64 c) := by rw [t1.cell]; rfl
  have o6 : w2.cell? ⟨t, 6, none⟩ = some (.int .i64 d) := by rw [t1.cell]; rfl
  by_cases hno : a < 0 ∨ b < 0 ∨ c < 1 ∨ d < 1 ∨ (W : Int) < c ∨ (H : Int) < d ∨ (W : Int) - c < a ∨ (H : Int) - d < b
  · go_upto_region 12 with fail
    refine Lex3.wp_region_lex [] (fun u => u.cell? ⟨B, 0, none⟩ = some (.slice (some ⟨gP, 0, none⟩) n cP) ∧ u.cell? ⟨gP, k, none⟩ = some (.pointer (some ⟨bp, 0, none⟩)) ∧ u.cell? ⟨t, 3, none⟩ = some (.int .i64 a) ∧ u.cell? ⟨t, 4, none⟩ = some (.int .i64 b) ∧ u.cell? ⟨t, 5, none⟩ = some (.int .i64 c) ∧ u.cell? ⟨t, 6, none⟩ = some (.int .i64 d)) (fun u n h => h) ⟨c0, e1, o3, o4, o5, o6⟩ (by kernel_rfl) (by kernel_rfl) ?_
    refine Lex3.run_free (v := ?_) (by rfl) (by rfl) (fun u => ?_) ?_; rotate_left; (go_simp; try with_reducible rfl); simp only [Act.put, List.setIfInBounds_toArray, List.set_cons_zero, List.set_cons_succ]
    refine Lex3.run_free (v := ?_) (by rfl) (by rfl) (fun u => ?_) ?_; rotate_left; (go_simp; try with_reducible rfl); simp only [Act.put, List.setIfInBounds_toArray, List.set_cons_zero, List.set_cons_succ]
    refine Lex3.run_free (v := ?_) (by rfl) (by rfl) (fun u => ?_) ?_; rotate_left; (go_simp; try with_reducible rfl); simp only [Act.put, List.setIfInBounds_toArray, List.set_cons_zero, List.set_cons_succ]
    refine Lex3.run_load (v := ?_) (by rfl) (by rfl) (fun u hu => ?_) ?_; rotate_left; (obtain ⟨hu0, hu1, hu2, hu3, hu4, hu5⟩ := hu; go_simp; try with_reducible rfl); simp only [Act.put, List.setIfInBounds_toArray, List.set_cons_zero, List.set_cons_succ]
    refine Lex3.run_free (v := ?_) (by rfl) (by rfl) (fun u => ?_) ?_; rotate_left; (go_simp; try with_reducible rfl); simp only [Act.put, List.setIfInBounds_toArray, List.set_cons_zero, List.set_cons_succ]
    refine Lex3.run_free (v := ?_) (by rfl) (by rfl) (fun u => ?_) ?_; rotate_left; (go_simp; try with_reducible rfl); simp only [Act.put, List.setIfInBounds_toArray, List.set_cons_zero, List.set_cons_succ]
    refine Lex3.run_load (v := ?_) (by rfl) (by rfl) (fun u hu => ?_) ?_; rotate_left; (obtain ⟨hu0, hu1, hu2, hu3, hu4, hu5⟩ := hu; go_simp; try with_reducible rfl); simp only [Act.put, List.setIfInBounds_toArray, List.set_cons_zero, List.set_cons_succ]
    refine Lex3.run_free (v := ?_) (by rfl) (by rfl) (fun u => ?_) ?_; rotate_left; (go_simp; try with_reducible rfl); simp only [Act.put, List.setIfInBounds_toArray, List.set_cons_zero, List.set_cons_succ]
    refine Lex3.run_load (v := ?_) (by rfl) (by rfl) (fun u hu => ?_) ?_; rotate_left; (obtain ⟨hu0, hu1, hu2, hu3, hu4, hu5⟩ := hu; go_simp; try with_reducible rfl); simp only [Act.put, List.setIfInBounds_toArray, List.set_cons_zero, List.set_cons_succ]
    refine Lex3.run_free (v := ?_) (by rfl) (by rfl) (fun u => ?_) ?_; rotate_left; (go_simp; try with_reducible rfl); simp only [Act.put, List.setIfInBounds_toArray, List.set_cons_zero, List.set_cons_succ]
    refine Lex3.run_load (v := ?_) (by rfl) (by rfl) (fun u hu => ?_) ?_; rotate_left; (obtain ⟨hu0, hu1, hu2, hu3, hu4, hu5⟩ := hu; go_simp; try with_reducible rfl); simp only [Act.put, List.setIfInBounds_toArray, List.set_cons_zero, List.set_cons_succ]
    refine Lex3.run_free (v := ?_) (by rfl) (by rfl) (fun u => ?_) ?_; rotate_left; (go_simp; try with_reducible rfl); simp only [Act.put, List.setIfInBounds_toArray, List.set_cons_zero, List.set_cons_succ]
    refine Lex3.run_load (v := ?_) (by rfl) (by rfl) (fun u hu => ?_) ?_; rotate_left; (obtain ⟨hu0, hu1, hu2, hu3, hu4, hu5⟩ := hu; go_simp; try with_reducible rfl); simp only [Act.put, List.setIfInBounds_toArray, List.set_cons_zero, List.set_cons_succ]
    refine Lex3.run_free (v := ?_) (by rfl) (by rfl) (fun u => ?_) ?_; rotate_left; (go_simp; try with_reducible rfl); simp only [Act.put, List.setIfInBounds_toArray, List.set_cons_zero, List.set_cons_succ]
    refine Lex3.run_load (v := ?_) (by rfl) (by rfl) (fun u hu => ?_) ?_; rotate_left; (obtain ⟨hu0, hu1, hu2, hu3, hu4, hu5⟩ := hu; go_simp; try with_reducible rfl); simp only [Act.put, List.setIfInBounds_toArray, List.set_cons_zero, List.set_cons_succ]
    refine Lex3.run_eff (by rfl) (by rfl) (fun n' K' hK => ?_)
    go_simp
    refine (PI.cut_no bp gp W H cp _ a b c d _ (hp.drewN _) hno).mono ?_
    rintro e w3 ⟨rfl, rfl⟩
    refine hK _ _ ⟨c0, e1, o3, o4, o5, o6⟩ ?_
    clear hK K'
    try simp only [Act.put, List.setIfInBounds_toArray, List.set_cons_zero, List.set_cons_succ]
    refine Lex3.run_free (v := ?_) (by rfl) (by rfl) (fun u => ?_) ?_; rotate_left; (go_simp; try with_reducible rfl); simp only [Act.put, List.setIfInBounds_toArray, List.set_cons_zero, List.set_cons_succ]
    refine Lex3.run_free (v := ?_) (by rfl) (by rfl) (fun u => ?_) ?_; rotate_left; (go_simp; try with_reducible rfl); simp only [Act.put, List.setIfInBounds_toArray, List.set_cons_zero, List.set_cons_succ]
    refine Lex3.run_free (v := ?_) (by rfl) (by rfl) (fun u => ?_) ?_; rotate_left; (go_simp; try with_reducible rfl); simp only [Act.put, List.setIfInBounds_toArray, List.set_cons_zero, List.set_cons_succ]
    refine Lex3.run_free (v := ?_) (by rfl) (by rfl) (fun u => ?_) ?_; rotate_left; (go_simp; try with_reducible rfl); simp only [Act.put, List.setIfInBounds_toArray, List.set_cons_zero, List.set_cons_succ]
    refine Lex3.run_free (v := ?_) (by rfl) (by rfl) (fun u => ?_) ?_; rotate_left; (go_simp; try with_reducible rfl); simp only [Act.put, List.setIfInBounds_toArray, List.set_cons_zero, List.set_cons_succ]
    refine Lex3.run_nil (fun n3 => ?_)
    try simp only [World.drewN_drewN]
    generalize hGx : 1 + n' + n3 = NX
    clear hGx
    go_upto_region 13 with fail
    refine Lex3.wp_region_lex [] (fun u => u.cell? ⟨B, 1, none⟩ = some (.slice (some ⟨gQ, 0, none⟩) n cQ) ∧ u.cell? ⟨gQ, k, none⟩ = some (.pointer (some ⟨bq, 0, none⟩)) ∧ u.cell? ⟨t, 3, none⟩ = some (.int .i64 a) ∧ u.cell? ⟨t, 4, none⟩ = some (.int .i64 b) ∧ u.cell? ⟨t, 5, none⟩ = some (.int .i64 c) ∧ u.cell? ⟨t, 6, none⟩ = some (.int .i64 d)) (fun u n h => h) ⟨c1, e2, o3, o4, o5, o6⟩ (by kernel_rfl) (by kernel_rfl) ?_
    refine Lex3.run_free (v := ?_) (by rfl) (by rfl) (fun u => ?_) ?_; rotate_left; (go_simp; try with_reducible rfl); simp only [Act.put, List.setIfInBounds_toArray, List.set_cons_zero, List.set_cons_succ]
    refine Lex3.run_free (v := ?_) (by rfl) (by rfl) (fun u => ?_) ?_; rotate_left; (go_simp; try with_reducible rfl); simp only [Act.put, List.setIfInBounds_toArray, List.set_cons_zero, List.set_cons_succ]
    refine Lex3.run_free (v := ?_) (by rfl) (by rfl) (fun u => ?_) ?_; rotate_left; (go_simp; try with_reducible rfl); simp only [Act.put, List.setIfInBounds_toArray, List.set_cons_zero, List.set_cons_succ]
    refine Lex3.run_load (v := ?_) (by rfl) (by rfl) (fun u hu => ?_) ?_; rotate_left; (obtain ⟨hu0, hu1, hu2, hu3, hu4, hu5⟩ := hu; go_simp; try with_reducible rfl); simp only [Act.put, List.setIfInBounds_toArray, List.set_cons_zero, List.set_cons_succ]
    refine Lex3.run_free (v := ?_) (by rfl) (by rfl) (fun u => ?_) ?_; rotate_left; (go_simp; try with_reducible rfl); simp only [Act.put, List.setIfInBounds_toArray, List.set_cons_zero, List.set_cons_succ]
    refine Lex3.run_free (v := ?_) (by rfl) (by rfl) (fun u => ?_) ?_; rotate_left; (go_simp; try with_reducible rfl); simp only [Act.put, List.setIfInBounds_toArray, List.set_cons_zero, List.set_cons_succ]
    refine Lex3.run_load (v := ?_) (by rfl) (by rfl) (fun u hu => ?_) ?_; rotate_left; (obtain ⟨hu0, hu1, hu2, hu3, hu4, hu5⟩ := hu; go_simp; try with_reducible rfl); simp only [Act.put, List.setIfInBounds_toArray, List.set_cons_zero, List.set_cons_succ]
    refine Lex3.run_free (v := ?_) (by rfl) (by rfl) (fun u => ?_) ?_; rotate_left; (go_simp; try with_reducible rfl); simp only [Act.put, List.setIfInBounds_toArray, List.set_cons_zero, List.set_cons_succ]
    refine Lex3.run_load (v := ?_) (by rfl) (by rfl) (fun u hu => ?_) ?_; rotate_left; (obtain ⟨hu0, hu1, hu2, hu3, hu4, hu5⟩ := hu; go_simp; try with_reducible rfl); simp only [Act.put, List.setIfInBounds_toArray, List.set_cons_zero, List.set_cons_succ]
    refine Lex3.run_free (v := ?_) (by rfl) (by rfl) (fun u => ?_) ?_; rotate_left; (go_simp; try with_reducible rfl); simp only [Act.put, List.setIfInBounds_toArray, List.set_cons_zero, List.set_cons_succ]
    refine Lex3.run_load (v := ?_) (by rfl) (by rfl) (fun u hu => ?_) ?_; rotate_left; (obtain ⟨hu0, hu1, hu2, hu3, hu4, hu5⟩ := hu; go_simp; try with_reducible rfl); simp only [Act.put, List.setIfInBounds_toArray, List.set_cons_zero, List.set_cons_succ]
    refine Lex3.run_free (v := ?_) (by rfl) (by rfl) (fun u => ?_) ?_; rotate_left; (go_simp; try with_reducible rfl); simp only [Act.put, List.setIfInBounds_toArray, List.set_cons_zero, List.set_cons_succ]
    refine Lex3.run_load (v := ?_) (by rfl) (by rfl) (fun u hu => ?_) ?_; rotate_left; (obtain ⟨hu0, hu1, hu2, hu3, hu4, hu5⟩ := hu; go_simp; try with_reducible rfl); simp only [Act.put, List.setIfInBounds_toArray, List.set_cons_zero, List.set_cons_succ]
    refine Lex3.run_free (v := ?_) (by rfl) (by rfl) (fun u => ?_) ?_; rotate_left; (go_simp; try with_reducible rfl); simp only [Act.put, List.setIfInBounds_toArray, List.set_cons_zero, List.set_cons_succ]
    refine Lex3.run_load (v := ?_) (by rfl) (by rfl) (fun u hu => ?_) ?_; rotate_left; (obtain ⟨hu0, hu1, hu2, hu3, hu4, hu5⟩ := hu; go_simp; try with_reducible rfl); simp only [Act.put, List.setIfInBounds_toArray, List.set_cons_zero, List.set_cons_succ]
    refine Lex3.run_eff (by rfl) (by rfl) (fun n' K' hK => ?_)
    go_simp
    refine (R12.cut_no bq gq W H cq _ a b c d _ (hq.drewN _) hno).mono ?_
    rintro e w3 ⟨rfl, rfl⟩
    refine hK _ _ ⟨c1, e2, o3, o4, o5, o6⟩ ?_
    clear hK K'
    try simp only [Act.put, List.setIfInBounds_toArray, List.set_cons_zero, List.set_cons_succ]
    refine Lex3.run_free (v := ?_) (by rfl) (by rfl) (fun u => ?_) ?_; rotate_left; (go_simp; try with_reducible rfl); simp only [Act.put, List.setIfInBounds_toArray, List.set_cons_zero, List.set_cons_succ]
    refine Lex3.run_free (v := ?_) (by rfl) (by rfl) (fun u => ?_) ?_; rotate_left; (go_simp; try with_reducible rfl); simp only [Act.put, List.setIfInBounds_toArray, List.set_cons_zero, List.set_cons_succ]
    refine Lex3.run_free (v := ?_) (by rfl) (by rfl) (fun u => ?_) ?_; rotate_left; (go_simp; try with_reducible rfl); simp only [Act.put, List.setIfInBounds_toArray, List.set_cons_zero, List.set_cons_succ]
    refine Lex3.run_free (v := ?_) (by rfl) (by rfl) (fun u => ?_) ?_; rotate_left; (go_simp; try with_reducible rfl); simp only [Act.put, List.setIfInBounds_toArray, List.set_cons_zero, List.set_cons_succ]
    refine Lex3.run_free (v := ?_) (by rfl) (by rfl) (fun u => ?_) ?_; rotate_left; (go_simp; try with_reducible rfl); simp only [Act.put, List.setIfInBounds_toArray, List.set_cons_zero, List.set_cons_succ]
    refine Lex3.run_nil (fun n3 => ?_)
    try simp only [World.drewN_drewN]
    generalize hGy : NX + 1 + n' + n3 = NY
    clear hGy
    go_wp2_with fail
    refine (keep_no base B _ _ _ _ _ _ 3 _ (h1.drewN NY)).mono ?_
    rintro e w3 ⟨rfl, b3, h3, f3⟩
    go_wp2_with fail
    refine bodyPost_end (results_none rfl _ _ _) rfl ?_
    exact Goes.same ((below_drewN b1 NY).trans b3) h3 hz hn
  · obtain ⟨x, rfl⟩ := Int.eq_ofNat_of_zero_le (show 0 ≤ a by omega)
    obtain ⟨y, rfl⟩ := Int.eq_ofNat_of_zero_le (show 0 ≤ b by omega)
    obtain ⟨wd, rfl⟩ := Int.eq_ofNat_of_zero_le (show 0 ≤ c by omega)
    obtain ⟨hg, rfl⟩ := Int.eq_ofNat_of_zero_le (show 0 ≤ d by omega)
    have hc1 : 1 ≤ wd := by omega
    have hc2 : 1 ≤ hg := by omega
    have hc3 : x + wd ≤ W := by omega
    have hc4 : y + hg ≤ H := by omega
    clear hno
    go_upto_region 12 with fail
    refine Lex3.wp_region_lex [] (fun u => u.cell? ⟨B, 0, none⟩ = some (.slice (some ⟨gP, 0, none⟩) n cP) ∧ u.cell? ⟨gP, k, none⟩ = some (.pointer (some ⟨bp, 0, none⟩)) ∧ u.cell? ⟨t, 3, none⟩ = some (.int .i64 x) ∧ u.cell? ⟨t, 4, none⟩ = some (.int .i64 y) ∧ u.cell? ⟨t, 5, none⟩ = some (.int .i64 wd) ∧ u.cell? ⟨t, 6, none⟩ = some (.int .i64 hg)) (fun u n h => h) ⟨c0, e1, o3, o4, o5, o6⟩ (by kernel_rfl) (by kernel_rfl) ?_
    refine Lex3.run_free (v := ?_) (by rfl) (by rfl) (fun u => ?_) ?_; rotate_left; (go_simp; try with_reducible rfl); simp only [Act.put, List.setIfInBounds_toArray, List.set_cons_zero, List.set_cons_succ]
    refine Lex3.run_free (v := ?_) (by rfl) (by rfl) (fun u => ?_) ?_; rotate_left; (go_simp; try with_reducible rfl); simp only [Act.put, List.setIfInBounds_toArray, List.set_cons_zero, List.set_cons_succ]
    refine Lex3.run_free (v := ?_) (by rfl) (by rfl) (fun u => ?_) ?_; rotate_left; (go_simp; try with_reducible rfl); simp only [Act.put, List.setIfInBounds_toArray, List.set_cons_zero, List.set_cons_succ]
    refine Lex3.run_load (v := ?_) (by rfl) (by rfl) (fun u hu => ?_) ?_; rotate_left; (obtain ⟨hu0, hu1, hu2, hu3, hu4, hu5⟩ := hu; go_simp; try with_reducible rfl); simp only [Act.put, List.setIfInBounds_toArray, List.set_cons_zero, List.set_cons_succ]
    refine Lex3.run_free (v := ?_) (by rfl) (by rfl) (fun u => ?_) ?_; rotate_left; (go_simp; try with_reducible rfl); simp only [Act.put, List.setIfInBounds_toArray, List.set_cons_zero, List.set_cons_succ]
    refine Lex3.run_free (v := ?_) (by rfl) (by rfl) (fun u => ?_) ?_; rotate_left; (go_simp; try with_reducible rfl); simp only [Act.put, List.setIfInBounds_toArray, List.set_cons_zero, List.set_cons_succ]
    refine Lex3.run_load (v := ?_) (by rfl) (by rfl) (fun u hu => ?_) ?_; rotate_left; (obtain ⟨hu0, hu1, hu2, hu3, hu4, hu5⟩ := hu; go_simp; try with_reducible rfl); simp only [Act.put, List.setIfInBounds_toArray, List.set_cons_zero, List.set_cons_succ]
    refine Lex3.run_free (v := ?_) (by rfl) (by rfl) (fun u => ?_) ?_; rotate_left; (go_simp; try with_reducible rfl); simp only [Act.put, List.setIfInBounds_toArray, List.set_cons_zero, List.set_cons_succ]
    refine Lex3.run_load (v := ?_) (by rfl) (by rfl) (fun u hu => ?_) ?_; rotate_left; (obtain ⟨hu0, hu1, hu2, hu3, hu4, hu5⟩ := hu; go_simp; try with_reducible rfl); simp only [Act.put, List.setIfInBounds_toArray, List.set_cons_zero, List.set_cons_succ]
    refine Lex3.run_free (v := ?_) (by rfl) (by rfl) (fun u => ?_) ?_; rotate_left; (go_simp; try with_reducible rfl); simp only [Act.put, List.setIfInBounds_toArray, List.set_cons_zero, List.set_cons_succ]
    refine Lex3.run_load (v := ?_) (by rfl) (by rfl) (fun u hu => ?_) ?_; rotate_left; (obtain ⟨hu0, hu1, hu2, hu3, hu4, hu5⟩ := hu; go_simp; try with_reducible rfl); simp only [Act.put, List.setIfInBounds_toArray, List.set_cons_zero, List.set_cons_succ]
    refine Lex3.run_free (v := ?_) (by rfl) (by rfl) (fun u => ?_) ?_; rotate_left; (go_simp; try with_reducible rfl); simp only [Act.put, List.setIfInBounds_toArray, List.set_cons_zero, List.set_cons_succ]
    refine Lex3.run_load (v := ?_) (by rfl) (by rfl) (fun u hu => ?_) ?_; rotate_left; (obtain ⟨hu0, hu1, hu2, hu3, hu4, hu5⟩ := hu; go_simp; try with_reducible rfl); simp only [Act.put, List.setIfInBounds_toArray, List.set_cons_zero, List.set_cons_succ]
    refine Lex3.run_free (v := ?_) (by rfl) (by rfl) (fun u => ?_) ?_; rotate_left; (go_simp; try with_reducible rfl); simp only [Act.put, List.setIfInBounds_toArray, List.set_cons_zero, List.set_cons_succ]
    refine Lex3.run_load (v := ?_) (by rfl) (by rfl) (fun u hu => ?_) ?_; rotate_left; (obtain ⟨hu0, hu1, hu2, hu3, hu4, hu5⟩ := hu; go_simp; try with_reducible rfl); simp only [Act.put, List.setIfInBounds_toArray, List.set_cons_zero, List.set_cons_succ]
    refine Lex3.run_eff (by rfl) (by rfl) (fun n' K' hK => ?_)
    go_simp
    refine (cutI_yes bp gp W H cp zs x y wd hg _ (hp.drewN _) hc1 hc2 hc3 hc4).mono ?_
    rintro e w3 ⟨p1, g1, k1, rfl, hp3, hp1, hg1, b3⟩
    have b23 : Below w2.heap.size w2 w3 := below_then (below_drewN (Below.refl _ _) (1 + n')) b3
    refine hK _ _ ⟨below_cell b23 c0, below_cell b23 e1, below_cell b23 o3, below_cell b23 o4, below_cell b23 o5, below_cell b23 o6⟩ ?_
    clear hK K'
    try simp only [Act.put, List.setIfInBounds_toArray, List.set_cons_zero, List.set_cons_succ]
    refine Lex3.run_free (v := ?_) (by rfl) (by rfl) (fun u => ?_) ?_; rotate_left; (go_simp; try with_reducible rfl); simp only [Act.put, List.setIfInBounds_toArray, List.set_cons_zero, List.set_cons_succ]
    refine Lex3.run_free (v := ?_) (by rfl) (by rfl) (fun u => ?_) ?_; rotate_left; (go_simp; try with_reducible rfl); simp only [Act.put, List.setIfInBounds_toArray, List.set_cons_zero, List.set_cons_succ]
    refine Lex3.run_free (v := ?_) (by rfl) (by rfl) (fun u => ?_) ?_; rotate_left; (go_simp; try with_reducible rfl); simp only [Act.put, List.setIfInBounds_toArray, List.set_cons_zero, List.set_cons_succ]
    refine Lex3.run_free (v := ?_) (by rfl) (by rfl) (fun u => ?_) ?_; rotate_left; (go_simp; try with_reducible rfl); simp only [Act.put, List.setIfInBounds_toArray, List.set_cons_zero, List.set_cons_succ]
    refine Lex3.run_free (v := ?_) (by rfl) (by rfl) (fun u => ?_) ?_; rotate_left; (go_simp; try with_reducible rfl); simp only [Act.put, List.setIfInBounds_toArray, List.set_cons_zero, List.set_cons_succ]
    refine Lex3.run_nil (fun n3 => ?_)
    replace b23 := below_drewN b23 n3
    replace hp3 := hp3.drewN n3
    clear b3
    generalize (w3.drewN n3) = w4 at b23 hp3 ⊢
    replace c1 := below_cell b23 c1
    replace e2 := below_cell b23 e2
    replace o3 := below_cell b23 o3
    replace o4 := below_cell b23 o4
    replace o5 := below_cell b23 o5
    replace o6 := below_cell b23 o6
    have hq4 := hq.below b23
    clear c0 e1 e3 e4 o0 hq2 hp2
    go_upto_region 13 with fail
    refine Lex3.wp_region_lex [] (fun u => u.cell? ⟨B, 1, none⟩ = some (.slice (some ⟨gQ, 0, none⟩) n cQ) ∧ u.cell? ⟨gQ, k, none⟩ = some (.pointer (some ⟨bq, 0, none⟩)) ∧ u.cell? ⟨t, 3, none⟩ = some (.int .i64 x) ∧ u.cell? ⟨t, 4, none⟩ = some (.int .i64 y) ∧ u.cell? ⟨t, 5, none⟩ = some (.int .i64 wd) ∧ u.cell? ⟨t, 6, none⟩ = some (.int .i64 hg)) (fun u n h => h) ⟨c1, e2, o3, o4, o5, o6⟩ (by kernel_rfl) (by kernel_rfl) ?_
    refine Lex3.run_free (v := ?_) (by rfl) (by rfl) (fun u => ?_) ?_; rotate_left; (go_simp; try with_reducible rfl); simp only [Act.put, List.setIfInBounds_toArray, List.set_cons_zero, List.set_cons_succ]
    refine Lex3.run_free (v := ?_) (by rfl) (by rfl) (fun u => ?_) ?_; rotate_left; (go_simp; try with_reducible rfl); simp only [Act.put, List.setIfInBounds_toArray, List.set_cons_zero, List.set_cons_succ]
    refine Lex3.run_free (v := ?_) (by rfl) (by rfl) (fun u => ?_) ?_; rotate_left; (go_simp; try with_reducible rfl); simp only [Act.put, List.setIfInBounds_toArray, List.set_cons_zero, List.set_cons_succ]
    refine Lex3.run_load (v := ?_) (by rfl) (by rfl) (fun u hu => ?_) ?_; rotate_left; (obtain ⟨hu0, hu1, hu2, hu3, hu4, hu5⟩ := hu; go_simp; try with_reducible rfl); simp only [Act.put, List.setIfInBounds_toArray, List.set_cons_zero, List.set_cons_succ]
    refine Lex3.run_free (v := ?_) (by rfl) (by rfl) (fun u => ?_) ?_; rotate_left; (go_simp; try with_reducible rfl); simp only [Act.put, List.setIfInBounds_toArray, List.set_cons_zero, List.set_cons_succ]
    refine Lex3.run_free (v := ?_) (by rfl) (by rfl) (fun u => ?_) ?_; rotate_left; (go_simp; try with_reducible rfl); simp only [Act.put, List.setIfInBounds_toArray, List.set_cons_zero, List.set_cons_succ]
    refine Lex3.run_load (v := ?_) (by rfl) (by rfl) (fun u hu => ?_) ?_; rotate_left; (obtain ⟨hu0, hu1, hu2, hu3, hu4, hu5⟩ := hu; go_simp; try with_reducible rfl); simp only [Act.put, List.setIfInBounds_toArray, List.set_cons_zero, List.set_cons_succ]
    refine Lex3.run_free (v := ?_) (by rfl) (by rfl) (fun u => ?_) ?_; rotate_left; (go_simp; try with_reducible rfl); simp only [Act.put, List.setIfInBounds_toArray, List.set_cons_zero, List.set_cons_succ]
    refine Lex3.run_load (v := ?_) (by rfl) (by rfl) (fun u hu => ?_) ?_; rotate_left; (obtain ⟨hu0, hu1, hu2, hu3, hu4, hu5⟩ := hu; go_simp; try with_reducible rfl); simp only [Act.put, List.setIfInBounds_toArray, List.set_cons_zero, List.set_cons_succ]
    refine Lex3.run_free (v := ?_) (by rfl) (by rfl) (fun u => ?_) ?_; rotate_left; (go_simp; try with_reducible rfl); simp only [Act.put, List.setIfInBounds_toArray, List.set_cons_zero, List.set_cons_succ]
    refine Lex3.run_load (v := ?_) (by rfl) (by rfl) (fun u hu => ?_) ?_; rotate_left; (obtain ⟨hu0, hu1, hu2, hu3, hu4, hu5⟩ := hu; go_simp; try with_reducible rfl); simp only [Act.put, List.setIfInBounds_toArray, List.set_cons_zero, List.set_cons_succ]
    refine Lex3.run_free (v := ?_) (by rfl) (by rfl) (fun u => ?_) ?_; rotate_left; (go_simp; try with_reducible rfl); simp only [Act.put, List.setIfInBounds_toArray, List.set_cons_zero, List.set_cons_succ]
    refine Lex3.run_load (v := ?_) (by rfl) (by rfl) (fun u hu => ?_) ?_; rotate_left; (obtain ⟨hu0, hu1, hu2, hu3, hu4, hu5⟩ := hu; go_simp; try with_reducible rfl); simp only [Act.put, List.setIfInBounds_toArray, List.set_cons_zero, List.set_cons_succ]
    refine Lex3.run_free (v := ?_) (by rfl) (by rfl) (fun u => ?_) ?_; rotate_left; (go_simp; try with_reducible rfl); simp only [Act.put, List.setIfInBounds_toArray, List.set_cons_zero, List.set_cons_succ]
    refine Lex3.run_load (v := ?_) (by rfl) (by rfl) (fun u hu => ?_) ?_; rotate_left; (obtain ⟨hu0, hu1, hu2, hu3, hu4, hu5⟩ := hu; go_simp; try with_reducible rfl); simp only [Act.put, List.setIfInBounds_toArray, List.set_cons_zero, List.set_cons_succ]
    refine Lex3.run_eff (by rfl) (by rfl) (fun n' K' hK => ?_)
    go_simp
    refine (R12.cut_yes bq gq W H cq zs x y wd hg _ (hq4.drewN _) hc1 hc2 hc3 hc4).mono ?_
    rintro e w5 ⟨p2, g2, k2, rfl, hq5, hp2, hg2, b5⟩
    have b45 : Below w4.heap.size w4 w5 := below_then (below_drewN (Below.refl _ _) (1 + n')) b5
    refine hK _ _ ⟨below_cell b45 c1, below_cell b45 e2, below_cell b45 o3, below_cell b45 o4, below_cell b45 o5, below_cell b45 o6⟩ ?_
    clear hK K'
    try simp only [Act.put, List.setIfInBounds_toArray, List.set_cons_zero, List.set_cons_succ]
    refine Lex3.run_free (v := ?_) (by rfl) (by rfl) (fun u => ?_) ?_; rotate_left; (go_simp; try with_reducible rfl); simp only [Act.put, List.setIfInBounds_toArray, List.set_cons_zero, List.set_cons_succ]
    refine Lex3.run_free (v := ?_) (by rfl) (by rfl) (fun u => ?_) ?_; rotate_left; (go_simp; try with_reducible rfl); simp only [Act.put, List.setIfInBounds_toArray, List.set_cons_zero, List.set_cons_succ]
    refine Lex3.run_free (v := ?_) (by rfl) (by rfl) (fun u => ?_) ?_; rotate_left; (go_simp; try with_reducible rfl); simp only [Act.put, List.setIfInBounds_toArray, List.set_cons_zero, List.set_cons_succ]
    refine Lex3.run_free (v := ?_) (by rfl) (by rfl) (fun u => ?_) ?_; rotate_left; (go_simp; try with_reducible rfl); simp only [Act.put, List.setIfInBounds_toArray, List.set_cons_zero, List.set_cons_succ]
    refine Lex3.run_free (v := ?_) (by rfl) (by rfl) (fun u => ?_) ?_; rotate_left; (go_simp; try with_reducible rfl); simp only [Act.put, List.setIfInBounds_toArray, List.set_cons_zero, List.set_cons_succ]
    refine Lex3.run_nil (fun n3 => ?_)
    replace b45 := below_drewN b45 n3
    replace hq5 := hq5.drewN n3
    clear b5
    generalize (w5.drewN n3) = w6 at b45 hq5 ⊢
    have b26 := below_then b23 b45
    have hs1 := hp3.blt
    have hs2 := hp3.glt
    have hp1' : w2.heap.size ≤ p1 := hp1
    have hg1' : w2.heap.size ≤ g1 := hg1
    have hp2' : w4.heap.size ≤ p2 := hp2
    have hg2' : w4.heap.size ≤ g2 := hg2
    have hs24 := b23.size
    obtain ⟨r6, h6, f6⟩ := h1.add (e := ⟨p1, g1, k1, p2, g2, k2, wd, hg, rowsZ W x y wd zs hg, rowsZ W x y wd zs hg⟩) b26 ⟨hp3.below b45, hq5⟩ (by dsimp only; omega) (by dsimp only; omega) (by dsimp only; omega) (by dsimp only; omega) (by dsimp only; omega) (by dsimp only; omega)
    clear c1 e2 o3 o4 o5 o6
    go_wp2_with fail
    refine (keep_yes base B n _ _ _ _ _ _ _ _ w6 h6 (by simp [hn]) (by simp [hn]) (by omega)).mono ?_
    rintro e w7 ⟨rfl, b7, r7, vp7, vq7, h7, f7⟩
    go_wp2_with fail
    refine bodyPost_end (results_none rfl _ _ _) rfl ?_
    exact Goes.more (e := ⟨p1, g1, k1, p2, g2, k2, wd, hg, rowsZ W x y wd zs hg, rowsZ W x y wd zs hg⟩) ((b1.trans (b26.mono h1.le)).trans b7) h7 hz (by rfl) hn

set_option maxRecDepth 100000 in
set_option maxHeartbeats 16000000 in
theorem one_nil (base B n : Nat) (r : Nat → Nat) (vp vq : Value) (es : List Ent) (I J a b c d v : Int) (A : Option Addr) (m mc : Nat) (w : World) (h : Book base w B r vp vq (es.map pP) (es.map pQ) es) (hz : ∀ e ∈ es, e.zp = e.zq) (hn : es.length = n) (hm : n ≤ 8388608) (h1n : 1 ≤ n) :
    Calls Try.prog 74 #[.pointer (some ⟨B, 0, none⟩), .agg #[.int .i64 12, .int .i64 I, .int .i64 J, .int .i64 a, .int .i64 b, .int .i64 c, .int .i64 d, .int .i64 v, .slice A m mc]] w (Goes base B n w) := by
  have hsee : ∃ gP cP gQ cQ, vp = .slice (some ⟨gP, 0, none⟩) n cP ∧ vq = .slice (some ⟨gQ, 0, none⟩) n cQ := by
    obtain ⟨e, he⟩ : ∃ e, es[0]? = some e := ⟨_, List.getElem?_eq_getElem (by omega)⟩
    obtain ⟨gP, cP, gQ, cQ, q1, q2, _⟩ := h.see n hn he
    exact ⟨gP, cP, gQ, cQ, q1, q2⟩
  obtain ⟨gP, cP, gQ, cQ, rfl, rfl⟩ := hsee
  obtain ⟨r1, h1, f1, hrt, t1, b1⟩ := h.box #[.int .i64 12, .int .i64 I, .int .i64 J, .int .i64 a, .int .i64 b, .int .i64 c, .int .i64 d, .int .i64 v, .slice A m mc] 119
  go_enter Try.func74, Try.ntmps74
  go_upto_region 1 with fail
  generalize (w.alloc (.cells #[.int .i64 12, .int .i64 I, .int .i64 J, .int .i64 a, .int .i64 b, .int .i64 c, .int .i64 d, .int .i64 v, .slice A m mc] 119)) = w1 at h1 f1 t1 b1 ⊢
  generalize w.heap.size = t at hrt t1 ⊢
  have o0 : w1.cell? ⟨t, 0, none⟩ = some (.int .i64 12) := by rw [t1.cell]; rfl
  have o1 : w1.cell? ⟨t, 1, none⟩ = some (.int .i64 I) := by rw [t1.cell]; rfl
  have o2 : w1.cell? ⟨t, 2, none⟩ = some (.int .i64 J) := by rw [t1.cell]; rfl
  have o3 : w1.cell? ⟨t, 3, none⟩ = some (.int .i64 a) := by rw [t1.cell]; rfl
  have o4 : w1.cell? ⟨t, 4, none⟩ = some (.int .i64 b) := by rw [t1.cell]; rfl
  have c0 := h1.p0
  have hkn : ((n : Int) == 0) = false := by simp; omega
  go_upto_region 4 with fail
  refine Lex3.wp_region_lex [] (fun u => u.cell? ⟨B, 0, none⟩ = some (.slice (some ⟨gP, 0, none⟩) n cP) ∧ u.cell? ⟨t, 1, none⟩ = some (.int .i64 I)) (fun u n h => h) ⟨c0, o1⟩ (by kernel_rfl) (by kernel_rfl) ?_
  refine Lex3.run_free (v := ?_) (by rfl) (by rfl) (fun u => ?_) ?_; rotate_left; (go_simp; try with_reducible rfl); simp only [Act.put, List.setIfInBounds_toArray, List.set_cons_zero, List.set_cons_succ]
  refine Lex3.run_load (v := ?_) (by rfl) (by rfl) (fun u hu => ?_) ?_; rotate_left; (obtain ⟨hu0, hu1⟩ := hu; go_simp; try with_reducible rfl); simp only [Act.put, List.setIfInBounds_toArray, List.set_cons_zero, List.set_cons_succ]
  refine Lex3.run_free (v := ?_) (by rfl) (by rfl) (fun u => ?_) ?_; rotate_left; (go_simp; try with_reducible rfl); simp only [Act.put, List.setIfInBounds_toArray, List.set_cons_zero, List.set_cons_succ]
  refine Lex3.run_free (v := ?_) (by rfl) (by rfl) (fun u => ?_) ?_; rotate_left; (go_simp; try with_reducible rfl); simp only [Act.put, List.setIfInBounds_toArray, List.set_cons_zero, List.set_cons_succ]
  refine Lex3.run_free (v := ?_) (by rfl) (by rfl) (fun u => ?_) ?_; rotate_left; (go_simp; try with_reducible rfl); simp only [Act.put, List.setIfInBounds_toArray, List.set_cons_zero, List.set_cons_succ]
  refine Lex3.run_load (v := ?_) (by rfl) (by rfl) (fun u hu => ?_) ?_; rotate_left; (obtain ⟨hu0, hu1⟩ := hu; go_simp; try with_reducible rfl); simp only [Act.put, List.setIfInBounds_toArray, List.set_cons_zero, List.set_cons_succ]
  refine Lex3.run_free (v := ?_) (by rfl) (by rfl) (fun u => ?_) ?_; rotate_left; (go_simp; try with_reducible rfl); simp only [Act.put, List.setIfInBounds_toArray, List.set_cons_zero, List.set_cons_succ]
  refine Lex3.run_eff (by rfl) (by rfl) (fun n' K' hK => ?_)
  go_simp
  refine (Go.Proofs.Ytlbocfinjlkebaa.Pieces.at_any I n _ (by omega) (by omega)).mono ?_
  rintro e w' ⟨v0, rfl, v1, v2, rfl⟩
  obtain ⟨k, rfl⟩ := Int.eq_ofNat_of_zero_le v1
  have kl : k < n := by omega
  obtain ⟨e1, he1⟩ : ∃ e, es[k]? = some e := ⟨_, List.getElem?_eq_getElem (by omega)⟩
  refine hK _ _ ⟨c0, o1⟩ ?_
  clear hK K' v1 v2
  try simp only [Act.put, List.setIfInBounds_toArray, List.set_cons_zero, List.set_cons_succ]
  refine Lex3.run_free (v := ?_) (by rfl) (by rfl) (fun u => ?_) ?_; rotate_left; (go_simp; try with_reducible rfl); simp only [Act.put, List.setIfInBounds_toArray, List.set_cons_zero, List.set_cons_succ]
  refine Lex3.run_nil (fun n3 => ?_)
  try simp only [World.drewN_drewN]
  generalize hGe1 : 1 + n' + n3 = Ne1
  clear hGe1
  go_upto_region 5 with fail
  refine Lex3.wp_region_lex [] (fun u => u.cell? ⟨B, 0, none⟩ = some (.slice (some ⟨gP, 0, none⟩) n cP) ∧ u.cell? ⟨t, 2, none⟩ = some (.int .i64 J)) (fun u n h => h) ⟨c0, o2⟩ (by kernel_rfl) (by kernel_rfl) ?_
  refine Lex3.run_free (v := ?_) (by rfl) (by rfl) (fun u => ?_) ?_; rotate_left; (go_simp; try with_reducible rfl); simp only [Act.put, List.setIfInBounds_toArray, List.set_cons_zero, List.set_cons_succ]
  refine Lex3.run_load (v := ?_) (by rfl) (by rfl) (fun u hu => ?_) ?_; rotate_left; (obtain ⟨hu0, hu1⟩ := hu; go_simp; try with_reducible rfl); simp only [Act.put, List.setIfInBounds_toArray, List.set_cons_zero, List.set_cons_succ]
  refine Lex3.run_free (v := ?_) (by rfl) (by rfl) (fun u => ?_) ?_; rotate_left; (go_simp; try with_reducible rfl); simp only [Act.put, List.setIfInBounds_toArray, List.set_cons_zero, List.set_cons_succ]
  refine Lex3.run_free (v := ?_) (by rfl) (by rfl) (fun u => ?_) ?_; rotate_left; (go_simp; try with_reducible rfl); simp only [Act.put, List.setIfInBounds_toArray, List.set_cons_zero, List.set_cons_succ]
  refine Lex3.run_free (v := ?_) (by rfl) (by rfl) (fun u => ?_) ?_; rotate_left; (go_simp; try with_reducible rfl); simp only [Act.put, List.setIfInBounds_toArray, List.set_cons_zero, List.set_cons_succ]
  refine Lex3.run_load (v := ?_) (by rfl) (by rfl) (fun u hu => ?_) ?_; rotate_left; (obtain ⟨hu0, hu1⟩ := hu; go_simp; try with_reducible rfl); simp only [Act.put, List.setIfInBounds_toArray, List.set_cons_zero, List.set_cons_succ]
  refine Lex3.run_free (v := ?_) (by rfl) (by rfl) (fun u => ?_) ?_; rotate_left; (go_simp; try with_reducible rfl); simp only [Act.put, List.setIfInBounds_toArray, List.set_cons_zero, List.set_cons_succ]
  refine Lex3.run_eff (by rfl) (by rfl) (fun n' K' hK => ?_)
  go_simp
  refine (Go.Proofs.Ytlbocfinjlkebaa.Pieces.at_any J n _ (by omega) (by omega)).mono ?_
  rintro e w' ⟨v0, rfl, v1, v2, rfl⟩
  obtain ⟨j, rfl⟩ := Int.eq_ofNat_of_zero_le v1
  have jl : j < n := by omega
  obtain ⟨e2, he2⟩ : ∃ e, es[j]? = some e := ⟨_, List.getElem?_eq_getElem (by omega)⟩
  refine hK _ _ ⟨c0, o2⟩ ?_
  clear hK K' v1 v2
  try simp only [Act.put, List.setIfInBounds_toArray, List.set_cons_zero, List.set_cons_succ]
  refine Lex3.run_free (v := ?_) (by rfl) (by rfl) (fun u => ?_) ?_; rotate_left; (go_simp; try with_reducible rfl); simp only [Act.put, List.setIfInBounds_toArray, List.set_cons_zero, List.set_cons_succ]
  refine Lex3.run_nil (fun n3 => ?_)
  try simp only [World.drewN_drewN]
  generalize hGe2 : Ne1 + 1 + n' + n3 = ND
  clear hGe2
  obtain ⟨bp, gp, cp, bq, gq, cq, W, H, zs, zt, rfl⟩ : ∃ bp gp cp bq gq cq W H zs zs', e1 = ⟨bp, gp, cp, bq, gq, cq, W, H, zs, zs'⟩ := ⟨_, _, _, _, _, _, _, _, _, _, rfl⟩
  obtain rfl : zs = zt := hz _ (List.mem_of_getElem? he1)
  obtain ⟨bp2, gp2, cp2, bq2, gq2, cq2, W2, H2, zs2, zt2, rfl⟩ : ∃ bp gp cp bq gq cq W H zs zs', e2 = ⟨bp, gp, cp, bq, gq, cq, W, H, zs, zs'⟩ := ⟨_, _, _, _, _, _, _, _, _, _, rfl⟩
  obtain rfl : zs2 = zt2 := hz _ (List.mem_of_getElem? he2)
  replace h1 := h1.drewN ND
  replace t1 := t1.drewN ND
  replace b1 := below_drewN b1 ND
  clear o0 o1 o2 c0 o3 o4
  generalize (w1.drewN ND) = w2 at h1 t1 b1 ⊢
  clear f1
  have c0 := h1.p0
  have c1 := h1.p1
  have e1 := h1.cellP hn he1
  have e2 := h1.cellQ hn he1
  have e3 := h1.cellP hn he2
  have e4 := h1.cellQ hn he2
  dsimp only at e1 e2 e3 e4
  obtain ⟨⟨hp, hq⟩, ⟨rr1, rr2, rr3, rr4⟩, _⟩ := h1.ent k _ he1
  obtain ⟨⟨hp2, hq2⟩, ⟨ss1, ss2, ss3, ss4⟩, _⟩ := h1.ent j _ he2
  dsimp only at hp hq hp2 hq2 rr1 rr2 rr3 rr4 ss1 ss2 ss3 ss4
  have o0 : w2.cell? ⟨t, 0, none⟩ = some (.int .i64 12) := by rw [t1.cell]; rfl
  have o3 : w2.cell? ⟨t, 3, none⟩ = some (.int .i64 a) := by rw [t1.cell]; rfl
  have o4 : w2.cell? ⟨t, 4, none⟩ = some (.int .i64 b) := by rw [t1.cell]; rfl
  go_upto_region 21 with fail
  refine Lex3.wp_region_lex [] (fun u => u.cell? ⟨B, 0, none⟩ = some (.slice (some ⟨gP, 0, none⟩) n cP) ∧ u.cell? ⟨gP, k, none⟩ = some (.pointer (some ⟨bp, 0, none⟩)) ∧ u.cell? ⟨t, 3, none⟩ = some (.int .i64 a) ∧ u.cell? ⟨t, 4, none⟩ = some (.int .i64 b)) (fun u n h => h) ⟨c0, e1, o3, o4⟩ (by kernel_rfl) (by kernel_rfl) ?_
  refine Lex3.run_free (v := ?_) (by rfl) (by rfl) (fun u => ?_) ?_; rotate_left; (go_simp; try with_reducible rfl); simp only [Act.put, List.setIfInBounds_toArray, List.set_cons_zero, List.set_cons_succ]
  refine Lex3.run_free (v := ?_) (by rfl) (by rfl) (fun u => ?_) ?_; rotate_left; (go_simp; try with_reducible rfl); simp only [Act.put, List.setIfInBounds_toArray, List.set_cons_zero, List.set_cons_succ]
  refine Lex3.run_free (v := ?_) (by rfl) (by rfl) (fun u => ?_) ?_; rotate_left; (go_simp; try with_reducible rfl); simp only [Act.put, List.setIfInBounds_toArray, List.set_cons_zero, List.set_cons_succ]
  refine Lex3.run_load (v := ?_) (by rfl) (by rfl) (fun u hu => ?_) ?_; rotate_left; (obtain ⟨hu0, hu1, hu2, hu3⟩ := hu; go_simp; try with_reducible rfl); simp only [Act.put, List.setIfInBounds_toArray, List.set_cons_zero, List.set_cons_succ]
  refine Lex3.run_free (v := ?_) (by rfl) (by rfl) (fun u => ?_) ?_; rotate_left; (go_simp; try with_reducible rfl); simp only [Act.put, List.setIfInBounds_toArray, List.set_cons_zero, List.set_cons_succ]
  refine Lex3.run_free (v := ?_) (by rfl) (by rfl) (fun u => ?_) ?_; rotate_left; (go_simp; try with_reducible rfl); simp only [Act.put, List.setIfInBounds_toArray, List.set_cons_zero, List.set_cons_succ]
  refine Lex3.run_load (v := ?_) (by rfl) (by rfl) (fun u hu => ?_) ?_; rotate_left; (obtain ⟨hu0, hu1, hu2, hu3⟩ := hu; go_simp; try with_reducible rfl); simp only [Act.put, List.setIfInBounds_toArray, List.set_cons_zero, List.set_cons_succ]
  refine Lex3.run_free (v := ?_) (by rfl) (by rfl) (fun u => ?_) ?_; rotate_left; (go_simp; try with_reducible rfl); simp only [Act.put, List.setIfInBounds_toArray, List.set_cons_zero, List.set_cons_succ]
  refine Lex3.run_load (v := ?_) (by rfl) (by rfl) (fun u hu => ?_) ?_; rotate_left; (obtain ⟨hu0, hu1, hu2, hu3⟩ := hu; go_simp; try with_reducible rfl); simp only [Act.put, List.setIfInBounds_toArray, List.set_cons_zero, List.set_cons_succ]
  refine Lex3.run_free (v := ?_) (by rfl) (by rfl) (fun u => ?_) ?_; rotate_left; (go_simp; try with_reducible rfl); simp only [Act.put, List.setIfInBounds_toArray, List.set_cons_zero, List.set_cons_succ]
  refine Lex3.run_load (v := ?_) (by rfl) (by rfl) (fun u hu => ?_) ?_; rotate_left; (obtain ⟨hu0, hu1, hu2, hu3⟩ := hu; go_simp; try with_reducible rfl); simp only [Act.put, List.setIfInBounds_toArray, List.set_cons_zero, List.set_cons_succ]
  refine Lex3.run_eff (by rfl) (by rfl) (fun n' K' hK => ?_)
  go_simp
  refine (PI.lay_nil bp gp W H cp _ a b _ (hp.drewN _)).mono ?_
  rintro e w3 ⟨rfl, rfl⟩
  refine hK _ _ ⟨c0, e1, o3, o4⟩ ?_
  clear hK K'
  try simp only [Act.put, List.setIfInBounds_toArray, List.set_cons_zero, List.set_cons_succ]

  refine Lex3.run_nil (fun n3 => ?_)
  try simp only [World.drewN_drewN]
  generalize hGx : 1 + n' + n3 = NX
  clear hGx
  go_wp2_with fail
  refine (PI.same_nil bp gp W H cp _ _ (hp.drewN NX)).mono ?_
  rintro e w3 ⟨rfl, k3, rfl⟩
  go_wp2_with fail
  refine (map_none bp _).mono ?_
  rintro e w3 ⟨rfl, rfl⟩
  go_wp2_with fail
  refine (map_nil _ _).mono ?_
  rintro e w3 ⟨rfl, rfl⟩
  have hC2 : ∀ N, (w2.drewN N).cell? ⟨B, 2, none⟩ = some (.bool true) := fun _ => h1.p2
  have hF2 : ∀ N, (w2.drewN N).frozen? ⟨B, 2, none⟩ = false := fun _ => h1.frozen 2
  go_wp2_with fail
  refine bodyPost_end (results_none rfl _ _ _) rfl ?_
  try simp only [World.drewN_drewN]
  exact Goes.same ((h1.drewN _).markB (below_drewN b1 _)) ((h1.drewN _).mark) hz hn
end Go.Proofs.Ytlbocfinjlkebaa.Scr
