/- PlaneScript: cost. -/
import Derived.Test.YtlbocfinjlkebaaSci
import Derived.Test.YtlbocfinjlkebaaScc
import Derived.Test.YtlbocfinjlkebaaPieces
import Derived.Test.YtlbocfinjlkebaaLex3
namespace Go.Proofs.Ytlbocfinjlkebaa.Scr
open Go.RowKit Go.Proofs.Ytlbocfinjlkebaa.Byt Go.Proofs.Ytlbocfinjlkebaa.R12

/-- what a call costs: at least one, and as much as its samples -/
def CostP (K : Int) (m : Nat) (w : World) (e : Ending) (w' : World) : Prop := ∃ c : Int, e = .returned (.int .i64 c) ∧ 1 ≤ c ∧ c ≤ 1152921504606846976 ∧ (K = 2 → c = 1 + (m : Int)) ∧ Below w.heap.size w w'
theorem Book.lenP {base : Nat} {w : World} {B : Nat} {r : Nat → Nat} {vp vq : Value} {qs : List Value} {es : List Ent} (h : Book base w B r vp vq (es.map pP) qs es) {n : Nat} (hn : es.length = n) : ∃ A c, vp = .slice A n c := by
  have h1 := h.rowp
  rw [List.length_map, hn] at h1
  rcases h1.2 with ⟨rfl, rfl⟩ | ⟨g, cap, cur, rfl, _⟩
  · exact ⟨none, 0, rfl⟩
  · exact ⟨_, _, rfl⟩
set_option maxRecDepth 100000 in
set_option maxHeartbeats 16000000 in
theorem cost_any (base B n : Nat) (r : Nat → Nat) (vp vq : Value) (es : List Ent) (K I J a b c d v : Int) (A : Option Addr) (m mc : Nat) (w : World) (h : Book base w B r vp vq (es.map pP) (es.map pQ) es) (hz : ∀ e ∈ es, e.zp = e.zq) (hn : es.length = n) (hm : n ≤ 8388608) (hm1 : m ≤ 70368744177664) :
    Calls Try.prog 73 #[.pointer (some ⟨B, 0, none⟩), .agg #[.int .i64 K, .int .i64 I, .int .i64 J, .int .i64 a, .int .i64 b, .int .i64 c, .int .i64 d, .int .i64 v, .slice A m mc]] w (CostP K m w) := by
  have ww := (Below.refl w.heap.size w).alloc (Nat.le_refl _) (.cells #[.int .i64 K, .int .i64 I, .int .i64 J, .int .i64 a, .int .i64 b, .int .i64 c, .int .i64 d, .int .i64 v, .slice A m mc] 119)
  have h1 := h.below ww
  have t1 : Blk (w.alloc (.cells #[.int .i64 K, .int .i64 I, .int .i64 J, .int .i64 a, .int .i64 b, .int .i64 c, .int .i64 d, .int .i64 v, .slice A m mc] 119)) w.heap.size 119 #[.int .i64 K, .int .i64 I, .int .i64 J, .int .i64 a, .int .i64 b, .int .i64 c, .int .i64 d, .int .i64 v, .slice A m mc] := Blk.new w _ _
  obtain ⟨Ap, cap, rfl⟩ := h.lenP hn
  have c0 := h1.p0
  have yn : IntKind.i64.wrap (1 + (m : Int)) = 1 + (m : Int) := IntWalk.i64_in _ (by omega)
  by_cases k1 : K = 1
  · subst k1
    go_enter Try.func73, Try.ntmps73
    go_upto_region 1 with fail
    generalize (w.alloc (.cells #[.int .i64 1, .int .i64 I, .int .i64 J, .int .i64 a, .int .i64 b, .int .i64 c, .int .i64 d, .int .i64 v, .slice A m mc] 119)) = w1 at h1 t1 ww c0 ⊢
    generalize w.heap.size = t at t1 ⊢
    have o0 : w1.cell? ⟨t, 0, none⟩ = some (.int .i64 1) := by rw [t1.cell]; rfl
    have o3 : w1.cell? ⟨t, 3, none⟩ = some (.int .i64 a) := by rw [t1.cell]; rfl
    have o4 : w1.cell? ⟨t, 4, none⟩ = some (.int .i64 b) := by rw [t1.cell]; rfl
    go_wp2_with fail
    refine (made_any _ _ _).mono ?_
    rintro e w' ⟨m1, rfl, hm2, rfl⟩
    have yn : IntKind.i64.wrap (1 + (m1 : Int)) = 1 + (m1 : Int) := IntWalk.i64_in _ (by omega)
    go_wp2_with fail
    go_ret
    exact ⟨_, rfl, by omega, by omega, by omega, ww⟩
  by_cases k2 : K = 2
  · subst k2
    clear k1
    go_enter Try.func73, Try.ntmps73
    go_upto_region 1 with fail
    generalize (w.alloc (.cells #[.int .i64 2, .int .i64 I, .int .i64 J, .int .i64 a, .int .i64 b, .int .i64 c, .int .i64 d, .int .i64 v, .slice A m mc] 119)) = w1 at h1 t1 ww c0 ⊢
    generalize w.heap.size = t at t1 ⊢
    have o0 : w1.cell? ⟨t, 0, none⟩ = some (.int .i64 2) := by rw [t1.cell]; rfl
    have o8 : w1.cell? ⟨t, 8, none⟩ = some (.slice A m mc) := by rw [t1.cell]; rfl
    go_wp2_with fail
    go_ret
    exact ⟨_, rfl, by omega, by omega, fun _ => rfl, ww⟩
  by_cases k0 : n = 0
  · subst k0
    go_enter Try.func73, Try.ntmps73
    go_upto_region 1 with fail
    generalize (w.alloc (.cells #[.int .i64 K, .int .i64 I, .int .i64 J, .int .i64 a, .int .i64 b, .int .i64 c, .int .i64 d, .int .i64 v, .slice A m mc] 119)) = w1 at h1 t1 ww c0 ⊢
    generalize w.heap.size = t at t1 ⊢
    have o0 : w1.cell? ⟨t, 0, none⟩ = some (.int .i64 K) := by rw [t1.cell]; rfl
    have o8 : w1.cell? ⟨t, 8, none⟩ = some (.slice A m mc) := by rw [t1.cell]; rfl
    go_wp2_with fail
    go_ret
    exact ⟨_, rfl, by omega, by omega, by omega, ww⟩
  have hsee : ∃ gP cP gQ cQ, Value.slice Ap n cap = .slice (some ⟨gP, 0, none⟩) n cP ∧ vq = .slice (some ⟨gQ, 0, none⟩) n cQ := by
    obtain ⟨e, he⟩ : ∃ e, es[0]? = some e := ⟨_, List.getElem?_eq_getElem (by omega)⟩
    obtain ⟨gP, cP, gQ, cQ, q1, q2, _⟩ := h.see n hn he
    exact ⟨gP, cP, gQ, cQ, q1, q2⟩
  obtain ⟨gP, cP, gQ, cQ, hq1, rfl⟩ := hsee
  injection hq1 with hq1 _ hq2
  subst hq1
  replace hq2 := hq2.symm
  subst hq2
  go_enter Try.func73, Try.ntmps73
  go_upto_region 1 with fail
  generalize (w.alloc (.cells #[.int .i64 K, .int .i64 I, .int .i64 J, .int .i64 a, .int .i64 b, .int .i64 c, .int .i64 d, .int .i64 v, .slice A m mc] 119)) = w1 at h1 t1 ww c0 ⊢
  generalize w.heap.size = t at t1 ⊢
  have o0 : w1.cell? ⟨t, 0, none⟩ = some (.int .i64 K) := by rw [t1.cell]; rfl
  have o1 : w1.cell? ⟨t, 1, none⟩ = some (.int .i64 I) := by rw [t1.cell]; rfl
  have o2 : w1.cell? ⟨t, 2, none⟩ = some (.int .i64 J) := by rw [t1.cell]; rfl
  have o5 : w1.cell? ⟨t, 5, none⟩ = some (.int .i64 c) := by rw [t1.cell]; rfl
  have o6 : w1.cell? ⟨t, 6, none⟩ = some (.int .i64 d) := by rw [t1.cell]; rfl
  have c1 := h1.p1
  have hcQ : ∀ j e, es[j]? = some e → w1.cell? ⟨gQ, j, none⟩ = some (pQ e) := fun j e he => h1.cellQ hn he
  have hkn : ((n : Int) == 0) = false := by simp; omega
  have hk2 : (K == 2) = false := by simpa using k2
  go_upto_region 5 with fail
  refine Lex3.wp_region_lex [] (fun u => u.cell? ⟨B, 1, none⟩ = some (.slice (some ⟨gQ, 0, none⟩) n cQ) ∧ u.cell? ⟨B, 0, none⟩ = some (.slice (some ⟨gP, 0, none⟩) n cP) ∧ u.cell? ⟨t, 1, none⟩ = some (.int .i64 I) ∧ (∀ j e, es[j]? = some e → u.cell? ⟨gQ, j, none⟩ = some (pQ e)) ∧ True) (fun u n h => h) ⟨c1, c0, o1, hcQ, trivial⟩ (by kernel_rfl) (by kernel_rfl) ?_
  refine Lex3.run_free (v := ?_) (by rfl) (by rfl) (fun u => ?_) ?_; rotate_left; (go_simp; try with_reducible rfl); simp only [Act.put, List.setIfInBounds_toArray, List.set_cons_zero, List.set_cons_succ]
  refine Lex3.run_free (v := ?_) (by rfl) (by rfl) (fun u => ?_) ?_; rotate_left; (go_simp; try with_reducible rfl); simp only [Act.put, List.setIfInBounds_toArray, List.set_cons_zero, List.set_cons_succ]
  refine Lex3.run_free (v := ?_) (by rfl) (by rfl) (fun u => ?_) ?_; rotate_left; (go_simp; try with_reducible rfl); simp only [Act.put, List.setIfInBounds_toArray, List.set_cons_zero, List.set_cons_succ]
  refine Lex3.run_load (v := ?_) (by rfl) (by rfl) (fun u hu => ?_) ?_; rotate_left; (obtain ⟨hu0, hu1, hu2, hu3, hu4⟩ := hu; go_simp; try with_reducible rfl); simp only [Act.put, List.setIfInBounds_toArray, List.set_cons_zero, List.set_cons_succ]
  refine Lex3.run_free (v := ?_) (by rfl) (by rfl) (fun u => ?_) ?_; rotate_left; (go_simp; try with_reducible rfl); simp only [Act.put, List.setIfInBounds_toArray, List.set_cons_zero, List.set_cons_succ]
  refine Lex3.run_load (v := ?_) (by rfl) (by rfl) (fun u hu => ?_) ?_; rotate_left; (obtain ⟨hu0, hu1, hu2, hu3, hu4⟩ := hu; go_simp; try with_reducible rfl); simp only [Act.put, List.setIfInBounds_toArray, List.set_cons_zero, List.set_cons_succ]
  refine Lex3.run_free (v := ?_) (by rfl) (by rfl) (fun u => ?_) ?_; rotate_left; (go_simp; try with_reducible rfl); simp only [Act.put, List.setIfInBounds_toArray, List.set_cons_zero, List.set_cons_succ]
  refine Lex3.run_free (v := ?_) (by rfl) (by rfl) (fun u => ?_) ?_; rotate_left; (go_simp; try with_reducible rfl); simp only [Act.put, List.setIfInBounds_toArray, List.set_cons_zero, List.set_cons_succ]
  refine Lex3.run_free (v := ?_) (by rfl) (by rfl) (fun u => ?_) ?_; rotate_left; (go_simp; try with_reducible rfl); simp only [Act.put, List.setIfInBounds_toArray, List.set_cons_zero, List.set_cons_succ]
  refine Lex3.run_load (v := ?_) (by rfl) (by rfl) (fun u hu => ?_) ?_; rotate_left; (obtain ⟨hu0, hu1, hu2, hu3, hu4⟩ := hu; go_simp; try with_reducible rfl); simp only [Act.put, List.setIfInBounds_toArray, List.set_cons_zero, List.set_cons_succ]
  refine Lex3.run_free (v := ?_) (by rfl) (by rfl) (fun u => ?_) ?_; rotate_left; (go_simp; try with_reducible rfl); simp only [Act.put, List.setIfInBounds_toArray, List.set_cons_zero, List.set_cons_succ]
  refine Lex3.run_eff (by rfl) (by rfl) (fun n' K' hK => ?_)
  go_simp
  refine (Go.Proofs.Ytlbocfinjlkebaa.Pieces.at_any I n _ (by omega) (by omega)).mono ?_
  rintro e w' ⟨v0, rfl, v1, v2, rfl⟩
  obtain ⟨i, rfl⟩ := Int.eq_ofNat_of_zero_le v1
  have il : i < n := by omega
  obtain ⟨e1, he1⟩ : ∃ e, es[i]? = some e := ⟨_, List.getElem?_eq_getElem (by omega)⟩
  have ge1 := hcQ _ _ he1
  refine hK _ _ ⟨c1, c0, o1, hcQ, trivial⟩ ?_
  clear hK K' v1 v2
  try simp only [Act.put, List.setIfInBounds_toArray, List.set_cons_zero, List.set_cons_succ]
  refine Lex3.run_free (v := ?_) (by rfl) (by rfl) (fun u => ?_) ?_; rotate_left; (go_simp; try with_reducible rfl); simp only [Act.put, List.setIfInBounds_toArray, List.set_cons_zero, List.set_cons_succ]
  refine Lex3.run_load (v := ?_) (by rfl) (by rfl) (fun u hu => ?_) ?_; rotate_left; (obtain ⟨hu0, hu1, hu2, hu3, hu4⟩ := hu; have hu5 := hu3 _ _ he1; clear hu3; unfold pQ at hu5; go_simp; try with_reducible rfl); simp only [Act.put, List.setIfInBounds_toArray, List.set_cons_zero, List.set_cons_succ]
  refine Lex3.run_free (v := ?_) (by rfl) (by rfl) (fun u => ?_) ?_; rotate_left; (go_simp; try with_reducible rfl); simp only [Act.put, List.setIfInBounds_toArray, List.set_cons_zero, List.set_cons_succ]
  refine Lex3.run_nil (fun n3 => ?_)
  try simp only [World.drewN_drewN]
  generalize 1 + n' + n3 = Ne1
  go_upto_region 6 with fail
  refine Lex3.wp_region_lex [] (fun u => u.cell? ⟨B, 1, none⟩ = some (.slice (some ⟨gQ, 0, none⟩) n cQ) ∧ u.cell? ⟨B, 0, none⟩ = some (.slice (some ⟨gP, 0, none⟩) n cP) ∧ u.cell? ⟨t, 2, none⟩ = some (.int .i64 J) ∧ (∀ j e, es[j]? = some e → u.cell? ⟨gQ, j, none⟩ = some (pQ e)) ∧ True) (fun u n h => h) ⟨c1, c0, o2, hcQ, trivial⟩ (by kernel_rfl) (by kernel_rfl) ?_
  refine Lex3.run_free (v := ?_) (by rfl) (by rfl) (fun u => ?_) ?_; rotate_left; (go_simp; try with_reducible rfl); simp only [Act.put, List.setIfInBounds_toArray, List.set_cons_zero, List.set_cons_succ]
  refine Lex3.run_free (v := ?_) (by rfl) (by rfl) (fun u => ?_) ?_; rotate_left; (go_simp; try with_reducible rfl); simp only [Act.put, List.setIfInBounds_toArray, List.set_cons_zero, List.set_cons_succ]
  refine Lex3.run_free (v := ?_) (by rfl) (by rfl) (fun u => ?_) ?_; rotate_left; (go_simp; try with_reducible rfl); simp only [Act.put, List.setIfInBounds_toArray, List.set_cons_zero, List.set_cons_succ]
  refine Lex3.run_load (v := ?_) (by rfl) (by rfl) (fun u hu => ?_) ?_; rotate_left; (obtain ⟨hu0, hu1, hu2, hu3, hu4⟩ := hu; go_simp; try with_reducible rfl); simp only [Act.put, List.setIfInBounds_toArray, List.set_cons_zero, List.set_cons_succ]
  refine Lex3.run_free (v := ?_) (by rfl) (by rfl) (fun u => ?_) ?_; rotate_left; (go_simp; try with_reducible rfl); simp only [Act.put, List.setIfInBounds_toArray, List.set_cons_zero, List.set_cons_succ]
  refine Lex3.run_load (v := ?_) (by rfl) (by rfl) (fun u hu => ?_) ?_; rotate_left; (obtain ⟨hu0, hu1, hu2, hu3, hu4⟩ := hu; go_simp; try with_reducible rfl); simp only [Act.put, List.setIfInBounds_toArray, List.set_cons_zero, List.set_cons_succ]
  refine Lex3.run_free (v := ?_) (by rfl) (by rfl) (fun u => ?_) ?_; rotate_left; (go_simp; try with_reducible rfl); simp only [Act.put, List.setIfInBounds_toArray, List.set_cons_zero, List.set_cons_succ]
  refine Lex3.run_free (v := ?_) (by rfl) (by rfl) (fun u => ?_) ?_; rotate_left; (go_simp; try with_reducible rfl); simp only [Act.put, List.setIfInBounds_toArray, List.set_cons_zero, List.set_cons_succ]
  refine Lex3.run_free (v := ?_) (by rfl) (by rfl) (fun u => ?_) ?_; rotate_left; (go_simp; try with_reducible rfl); simp only [Act.put, List.setIfInBounds_toArray, List.set_cons_zero, List.set_cons_succ]
  refine Lex3.run_load (v := ?_) (by rfl) (by rfl) (fun u hu => ?_) ?_; rotate_left; (obtain ⟨hu0, hu1, hu2, hu3, hu4⟩ := hu; go_simp; try with_reducible rfl); simp only [Act.put, List.setIfInBounds_toArray, List.set_cons_zero, List.set_cons_succ]
  refine Lex3.run_free (v := ?_) (by rfl) (by rfl) (fun u => ?_) ?_; rotate_left; (go_simp; try with_reducible rfl); simp only [Act.put, List.setIfInBounds_toArray, List.set_cons_zero, List.set_cons_succ]
  refine Lex3.run_eff (by rfl) (by rfl) (fun n' K' hK => ?_)
  go_simp
  refine (Go.Proofs.Ytlbocfinjlkebaa.Pieces.at_any J n _ (by omega) (by omega)).mono ?_
  rintro e w' ⟨v0, rfl, v1, v2, rfl⟩
  obtain ⟨j, rfl⟩ := Int.eq_ofNat_of_zero_le v1
  have jl : j < n := by omega
  obtain ⟨e2, he2⟩ : ∃ e, es[j]? = some e := ⟨_, List.getElem?_eq_getElem (by omega)⟩
  have ge2 := hcQ _ _ he2
  refine hK _ _ ⟨c1, c0, o2, hcQ, trivial⟩ ?_
  clear hK K' v1 v2
  try simp only [Act.put, List.setIfInBounds_toArray, List.set_cons_zero, List.set_cons_succ]
  refine Lex3.run_free (v := ?_) (by rfl) (by rfl) (fun u => ?_) ?_; rotate_left; (go_simp; try with_reducible rfl); simp only [Act.put, List.setIfInBounds_toArray, List.set_cons_zero, List.set_cons_succ]
  refine Lex3.run_load (v := ?_) (by rfl) (by rfl) (fun u hu => ?_) ?_; rotate_left; (obtain ⟨hu0, hu1, hu2, hu3, hu4⟩ := hu; have hu5 := hu3 _ _ he2; clear hu3; unfold pQ at hu5; go_simp; try with_reducible rfl); simp only [Act.put, List.setIfInBounds_toArray, List.set_cons_zero, List.set_cons_succ]
  refine Lex3.run_free (v := ?_) (by rfl) (by rfl) (fun u => ?_) ?_; rotate_left; (go_simp; try with_reducible rfl); simp only [Act.put, List.setIfInBounds_toArray, List.set_cons_zero, List.set_cons_succ]
  refine Lex3.run_nil (fun n3 => ?_)
  try simp only [World.drewN_drewN]
  generalize 1 + n' + n3 = Ne2

  obtain ⟨bp, gp, cp, bq, gq, cq, W, H, zs, zt, rfl⟩ : ∃ bp gp cp bq gq cq W H zs zs', e1 = ⟨bp, gp, cp, bq, gq, cq, W, H, zs, zs'⟩ := ⟨_, _, _, _, _, _, _, _, _, _, rfl⟩
  obtain ⟨bp2, gp2, cp2, bq2, gq2, cq2, W2, H2, zs2, zt2, rfl⟩ : ∃ bp gp cp bq gq cq W H zs zs', e2 = ⟨bp, gp, cp, bq, gq, cq, W, H, zs, zs'⟩ := ⟨_, _, _, _, _, _, _, _, _, _, rfl⟩
  have hq := (h1.ent i _ he1).1.2
  have hq' := (h1.ent j _ he2).1.2
  dsimp only at hq hq'
  have w0 := hq.c0
  have w1' := hq.c1
  have w2 := hq.c2
  have w2' := hq'.c2
  have z1 := hq.size
  have z2 := hq'.size
  obtain ⟨M, hM⟩ : ∃ M, W * H = M := ⟨_, rfl⟩
  obtain ⟨M2, hM2⟩ : ∃ M, W2 * H2 = M := ⟨_, rfl⟩
  rw [hM] at w2 z1
  rw [hM2] at w2' z2
  have HM := Lib.hid (And.intro hM hM2); clear hM hM2
  clear hcQ
  have y1 : IntKind.i64.wrap (1 + (M : Int)) = 1 + (M : Int) := IntWalk.i64_in _ (by omega)
  have y2 : IntKind.i64.wrap (1 + (M : Int) + (M2 : Int)) = 1 + (M : Int) + (M2 : Int) := IntWalk.i64_in _ (by omega)
  by_cases k6 : K = 6
  · subst k6
    clear k1 k2
    have hsd := hq.side
    go_upto_region 9 with fail
    by_cases h9 : (W : Int) < c
    · refine Lex3.wp_region_lex [] (fun u => u.cell? ⟨t, 5, none⟩ = some (.int .i64 c) ∧ u.cell? ⟨t, 6, none⟩ = some (.int .i64 d) ∧ u.cell? ⟨bq, 0, none⟩ = some (.int .i64 W) ∧ u.cell? ⟨bq, 1, none⟩ = some (.int .i64 H)) (fun u n h => h) ⟨o5, o6, w0, w1'⟩ (by kernel_rfl) (by kernel_rfl) ?_
      have hd9 : decide ((W : Int) < c) = true := by simpa using h9
      refine Lex3.run_free (v := ?_) (by rfl) (by rfl) (fun u => ?_) ?_; rotate_left; (go_simp; try with_reducible rfl); simp only [Act.put, List.setIfInBounds_toArray, List.set_cons_zero, List.set_cons_succ]
      refine Lex3.run_load (v := ?_) (by rfl) (by rfl) (fun u hu => ?_) ?_; rotate_left; (obtain ⟨hu0, hu1, hu2, hu3⟩ := hu; go_simp; try with_reducible rfl); simp only [Act.put, List.setIfInBounds_toArray, List.set_cons_zero, List.set_cons_succ]
      refine Lex3.run_free (v := ?_) (by rfl) (by rfl) (fun u => ?_) ?_; rotate_left; (go_simp; try with_reducible rfl); simp only [Act.put, List.setIfInBounds_toArray, List.set_cons_zero, List.set_cons_succ]
      refine Lex3.run_free (v := ?_) (by rfl) (by rfl) (fun u => ?_) ?_; rotate_left; (go_simp; try with_reducible rfl); simp only [Act.put, List.setIfInBounds_toArray, List.set_cons_zero, List.set_cons_succ]
      refine Lex3.run_free (v := ?_) (by rfl) (by rfl) (fun u => ?_) ?_; rotate_left; (go_simp; try with_reducible rfl); simp only [Act.put, List.setIfInBounds_toArray, List.set_cons_zero, List.set_cons_succ]
      refine Lex3.run_load (v := ?_) (by rfl) (by rfl) (fun u hu => ?_) ?_; rotate_left; (obtain ⟨hu0, hu1, hu2, hu3⟩ := hu; go_simp; try with_reducible rfl); simp only [Act.put, List.setIfInBounds_toArray, List.set_cons_zero, List.set_cons_succ]
      refine Lex3.run_free (v := ?_) (by rfl) (by rfl) (fun u => ?_) ?_; rotate_left; (go_simp; try with_reducible rfl); simp only [Act.put, List.setIfInBounds_toArray, List.set_cons_zero, List.set_cons_succ]
      refine Lex3.run_free (v := ?_) (by rfl) (by rfl) (fun u => ?_) ?_; rotate_left; (go_simp; try with_reducible rfl); simp only [Act.put, List.setIfInBounds_toArray, List.set_cons_zero, List.set_cons_succ]
      refine Lex3.run_skip (by kernel_rfl) ?_; simp only [Act.put, List.setIfInBounds_toArray, List.set_cons_zero, List.set_cons_succ]
      refine Lex3.run_skip (by kernel_rfl) ?_; simp only [Act.put, List.setIfInBounds_toArray, List.set_cons_zero, List.set_cons_succ]
      refine Lex3.run_skip (by kernel_rfl) ?_; simp only [Act.put, List.setIfInBounds_toArray, List.set_cons_zero, List.set_cons_succ]
      refine Lex3.run_skip (by kernel_rfl) ?_; simp only [Act.put, List.setIfInBounds_toArray, List.set_cons_zero, List.set_cons_succ]
      refine Lex3.run_skip (by kernel_rfl) ?_; simp only [Act.put, List.setIfInBounds_toArray, List.set_cons_zero, List.set_cons_succ]
      refine Lex3.run_skip (by kernel_rfl) ?_; simp only [Act.put, List.setIfInBounds_toArray, List.set_cons_zero, List.set_cons_succ]
      refine Lex3.run_skip (by kernel_rfl) ?_; simp only [Act.put, List.setIfInBounds_toArray, List.set_cons_zero, List.set_cons_succ]
      refine Lex3.run_free (v := ?_) (by rfl) (by rfl) (fun u => ?_) ?_; rotate_left; (go_simp; try with_reducible rfl); simp only [Act.put, List.setIfInBounds_toArray, List.set_cons_zero, List.set_cons_succ]
      refine Lex3.run_nil (fun n3 => ?_)
      go_wp2_with fail
      go_ret
      exact ⟨_, rfl, by omega, by omega, by omega, below_drewN ww _⟩
    · have hd9 : decide ((W : Int) < c) = false := by simpa using h9
      refine Lex3.wp_region_lex [] (fun u => u.cell? ⟨t, 5, none⟩ = some (.int .i64 c) ∧ u.cell? ⟨t, 6, none⟩ = some (.int .i64 d) ∧ u.cell? ⟨bq, 0, none⟩ = some (.int .i64 W) ∧ u.cell? ⟨bq, 1, none⟩ = some (.int .i64 H)) (fun u n h => h) ⟨o5, o6, w0, w1'⟩ (by kernel_rfl) (by kernel_rfl) ?_
      refine Lex3.run_free (v := ?_) (by rfl) (by rfl) (fun u => ?_) ?_; rotate_left; (go_simp; try with_reducible rfl); simp only [Act.put, List.setIfInBounds_toArray, List.set_cons_zero, List.set_cons_succ]
      refine Lex3.run_load (v := ?_) (by rfl) (by rfl) (fun u hu => ?_) ?_; rotate_left; (obtain ⟨hu0, hu1, hu2, hu3⟩ := hu; go_simp; try with_reducible rfl); simp only [Act.put, List.setIfInBounds_toArray, List.set_cons_zero, List.set_cons_succ]
      refine Lex3.run_free (v := ?_) (by rfl) (by rfl) (fun u => ?_) ?_; rotate_left; (go_simp; try with_reducible rfl); simp only [Act.put, List.setIfInBounds_toArray, List.set_cons_zero, List.set_cons_succ]
      refine Lex3.run_free (v := ?_) (by rfl) (by rfl) (fun u => ?_) ?_; rotate_left; (go_simp; try with_reducible rfl); simp only [Act.put, List.setIfInBounds_toArray, List.set_cons_zero, List.set_cons_succ]
      refine Lex3.run_free (v := ?_) (by rfl) (by rfl) (fun u => ?_) ?_; rotate_left; (go_simp; try with_reducible rfl); simp only [Act.put, List.setIfInBounds_toArray, List.set_cons_zero, List.set_cons_succ]
      refine Lex3.run_load (v := ?_) (by rfl) (by rfl) (fun u hu => ?_) ?_; rotate_left; (obtain ⟨hu0, hu1, hu2, hu3⟩ := hu; go_simp; try with_reducible rfl); simp only [Act.put, List.setIfInBounds_toArray, List.set_cons_zero, List.set_cons_succ]
      refine Lex3.run_free (v := ?_) (by rfl) (by rfl) (fun u => ?_) ?_; rotate_left; (go_simp; try with_reducible rfl); simp only [Act.put, List.setIfInBounds_toArray, List.set_cons_zero, List.set_cons_succ]
      refine Lex3.run_free (v := ?_) (by rfl) (by rfl) (fun u => ?_) ?_; rotate_left; (go_simp; try with_reducible rfl); simp only [Act.put, List.setIfInBounds_toArray, List.set_cons_zero, List.set_cons_succ]
      refine Lex3.run_free (v := ?_) (by rfl) (by kernel_rfl) (fun u => ?_) ?_; rotate_left; (go_simp; try with_reducible rfl); simp only [Act.put, List.setIfInBounds_toArray, List.set_cons_zero, List.set_cons_succ]
      refine Lex3.run_load (v := ?_) (by rfl) (by kernel_rfl) (fun u hu => ?_) ?_; rotate_left; (obtain ⟨hu0, hu1, hu2, hu3⟩ := hu; go_simp; try with_reducible rfl); simp only [Act.put, List.setIfInBounds_toArray, List.set_cons_zero, List.set_cons_succ]
      refine Lex3.run_free (v := ?_) (by rfl) (by kernel_rfl) (fun u => ?_) ?_; rotate_left; (go_simp; try with_reducible rfl); simp only [Act.put, List.setIfInBounds_toArray, List.set_cons_zero, List.set_cons_succ]
      refine Lex3.run_free (v := ?_) (by rfl) (by kernel_rfl) (fun u => ?_) ?_; rotate_left; (go_simp; try with_reducible rfl); simp only [Act.put, List.setIfInBounds_toArray, List.set_cons_zero, List.set_cons_succ]
      refine Lex3.run_free (v := ?_) (by rfl) (by kernel_rfl) (fun u => ?_) ?_; rotate_left; (go_simp; try with_reducible rfl); simp only [Act.put, List.setIfInBounds_toArray, List.set_cons_zero, List.set_cons_succ]
      refine Lex3.run_load (v := ?_) (by rfl) (by kernel_rfl) (fun u hu => ?_) ?_; rotate_left; (obtain ⟨hu0, hu1, hu2, hu3⟩ := hu; go_simp; try with_reducible rfl); simp only [Act.put, List.setIfInBounds_toArray, List.set_cons_zero, List.set_cons_succ]
      refine Lex3.run_free (v := ?_) (by rfl) (by kernel_rfl) (fun u => ?_) ?_; rotate_left; (go_simp; try with_reducible rfl); simp only [Act.put, List.setIfInBounds_toArray, List.set_cons_zero, List.set_cons_succ]
      refine Lex3.run_free (v := ?_) (by rfl) (by rfl) (fun u => ?_) ?_; rotate_left; (go_simp; try with_reducible rfl); simp only [Act.put, List.setIfInBounds_toArray, List.set_cons_zero, List.set_cons_succ]
      refine Lex3.run_nil (fun n3 => ?_)
      by_cases h10 : (H : Int) < d
      · go_wp2_with fail
        go_ret
        exact ⟨_, rfl, by omega, by omega, by omega, below_drewN ww _⟩
      · go_wp2_with fail
        refine (made_any _ _ _).mono ?_
        rintro e w' ⟨m1, rfl, hm2, rfl⟩
        have yn : IntKind.i64.wrap (1 + (m1 : Int)) = 1 + (m1 : Int) := IntWalk.i64_in _ (by omega)
        go_wp2_with fail
        go_ret
        exact ⟨_, rfl, by omega, by omega, by omega, below_drewN ww _⟩
  by_cases k7 : K = 7
  · subst k7
    clear k1 k2 k6
    go_upto_region 14 with fail
    refine Lex3.wp_region_lex [] (fun u => u.cell? ⟨bq, 2, none⟩ = some (.slice (some ⟨gq, 0, none⟩) M cq) ∧ u.cell? ⟨bq2, 2, none⟩ = some (.slice (some ⟨gq2, 0, none⟩) M2 cq2)) (fun u n h => h) ⟨w2, w2'⟩ (by kernel_rfl) (by kernel_rfl) ?_
    refine Lex3.run_free (v := ?_) (by rfl) (by rfl) (fun u => ?_) ?_; rotate_left; (go_simp; try with_reducible rfl); simp only [Act.put, List.setIfInBounds_toArray, List.set_cons_zero, List.set_cons_succ]
    refine Lex3.run_free (v := ?_) (by rfl) (by rfl) (fun u => ?_) ?_; rotate_left; (go_simp; try with_reducible rfl); simp only [Act.put, List.setIfInBounds_toArray, List.set_cons_zero, List.set_cons_succ]
    refine Lex3.run_free (v := ?_) (by rfl) (by rfl) (fun u => ?_) ?_; rotate_left; (go_simp; try with_reducible rfl); simp only [Act.put, List.setIfInBounds_toArray, List.set_cons_zero, List.set_cons_succ]
    refine Lex3.run_load (v := ?_) (by rfl) (by rfl) (fun u hu => ?_) ?_; rotate_left; (obtain ⟨hu0, hu1⟩ := hu; go_simp; try with_reducible rfl); simp only [Act.put, List.setIfInBounds_toArray, List.set_cons_zero, List.set_cons_succ]
    refine Lex3.run_free (v := ?_) (by rfl) (by rfl) (fun u => ?_) ?_; rotate_left; (go_simp; try with_reducible rfl); simp only [Act.put, List.setIfInBounds_toArray, List.set_cons_zero, List.set_cons_succ]
    refine Lex3.run_free (v := ?_) (by rfl) (by rfl) (fun u => ?_) ?_; rotate_left; (go_simp; try with_reducible rfl); simp only [Act.put, List.setIfInBounds_toArray, List.set_cons_zero, List.set_cons_succ]
    refine Lex3.run_free (v := ?_) (by rfl) (by rfl) (fun u => ?_) ?_; rotate_left; (go_simp; try with_reducible rfl); simp only [Act.put, List.setIfInBounds_toArray, List.set_cons_zero, List.set_cons_succ]
    refine Lex3.run_free (v := ?_) (by rfl) (by rfl) (fun u => ?_) ?_; rotate_left; (go_simp; try with_reducible rfl); simp only [Act.put, List.setIfInBounds_toArray, List.set_cons_zero, List.set_cons_succ]
    refine Lex3.run_free (v := ?_) (by rfl) (by rfl) (fun u => ?_) ?_; rotate_left; (go_simp; try with_reducible rfl); simp only [Act.put, List.setIfInBounds_toArray, List.set_cons_zero, List.set_cons_succ]
    refine Lex3.run_load (v := ?_) (by rfl) (by rfl) (fun u hu => ?_) ?_; rotate_left; (obtain ⟨hu0, hu1⟩ := hu; go_simp; try with_reducible rfl); simp only [Act.put, List.setIfInBounds_toArray, List.set_cons_zero, List.set_cons_succ]
    refine Lex3.run_free (v := ?_) (by rfl) (by rfl) (fun u => ?_) ?_; rotate_left; (go_simp; try with_reducible rfl); simp only [Act.put, List.setIfInBounds_toArray, List.set_cons_zero, List.set_cons_succ]
    refine Lex3.run_free (v := ?_) (by rfl) (by rfl) (fun u => ?_) ?_; rotate_left; (go_simp; try with_reducible rfl); simp only [Act.put, List.setIfInBounds_toArray, List.set_cons_zero, List.set_cons_succ]
    refine Lex3.run_free (v := ?_) (by rfl) (by rfl) (fun u => ?_) ?_; rotate_left; (go_simp; try with_reducible rfl); simp only [Act.put, List.setIfInBounds_toArray, List.set_cons_zero, List.set_cons_succ]
    refine Lex3.run_nil (fun n3 => ?_)
    go_wp2_with fail
    go_ret
    exact ⟨_, rfl, by omega, by omega, by omega, below_drewN ww _⟩
  by_cases k8 : K = 8
  · subst k8
    clear k1 k2 k6 k7
    go_upto_region 14 with fail
    refine Lex3.wp_region_lex [] (fun u => u.cell? ⟨bq, 2, none⟩ = some (.slice (some ⟨gq, 0, none⟩) M cq) ∧ u.cell? ⟨bq2, 2, none⟩ = some (.slice (some ⟨gq2, 0, none⟩) M2 cq2)) (fun u n h => h) ⟨w2, w2'⟩ (by kernel_rfl) (by kernel_rfl) ?_
    refine Lex3.run_free (v := ?_) (by rfl) (by rfl) (fun u => ?_) ?_; rotate_left; (go_simp; try with_reducible rfl); simp only [Act.put, List.setIfInBounds_toArray, List.set_cons_zero, List.set_cons_succ]
    refine Lex3.run_free (v := ?_) (by rfl) (by rfl) (fun u => ?_) ?_; rotate_left; (go_simp; try with_reducible rfl); simp only [Act.put, List.setIfInBounds_toArray, List.set_cons_zero, List.set_cons_succ]
    refine Lex3.run_free (v := ?_) (by rfl) (by rfl) (fun u => ?_) ?_; rotate_left; (go_simp; try with_reducible rfl); simp only [Act.put, List.setIfInBounds_toArray, List.set_cons_zero, List.set_cons_succ]
    refine Lex3.run_load (v := ?_) (by rfl) (by rfl) (fun u hu => ?_) ?_; rotate_left; (obtain ⟨hu0, hu1⟩ := hu; go_simp; try with_reducible rfl); simp only [Act.put, List.setIfInBounds_toArray, List.set_cons_zero, List.set_cons_succ]
    refine Lex3.run_free (v := ?_) (by rfl) (by rfl) (fun u => ?_) ?_; rotate_left; (go_simp; try with_reducible rfl); simp only [Act.put, List.setIfInBounds_toArray, List.set_cons_zero, List.set_cons_succ]
    refine Lex3.run_free (v := ?_) (by rfl) (by rfl) (fun u => ?_) ?_; rotate_left; (go_simp; try with_reducible rfl); simp only [Act.put, List.setIfInBounds_toArray, List.set_cons_zero, List.set_cons_succ]
    refine Lex3.run_free (v := ?_) (by rfl) (by rfl) (fun u => ?_) ?_; rotate_left; (go_simp; try with_reducible rfl); simp only [Act.put, List.setIfInBounds_toArray, List.set_cons_zero, List.set_cons_succ]
    refine Lex3.run_free (v := ?_) (by rfl) (by rfl) (fun u => ?_) ?_; rotate_left; (go_simp; try with_reducible rfl); simp only [Act.put, List.setIfInBounds_toArray, List.set_cons_zero, List.set_cons_succ]
    refine Lex3.run_free (v := ?_) (by rfl) (by rfl) (fun u => ?_) ?_; rotate_left; (go_simp; try with_reducible rfl); simp only [Act.put, List.setIfInBounds_toArray, List.set_cons_zero, List.set_cons_succ]
    refine Lex3.run_load (v := ?_) (by rfl) (by rfl) (fun u hu => ?_) ?_; rotate_left; (obtain ⟨hu0, hu1⟩ := hu; go_simp; try with_reducible rfl); simp only [Act.put, List.setIfInBounds_toArray, List.set_cons_zero, List.set_cons_succ]
    refine Lex3.run_free (v := ?_) (by rfl) (by rfl) (fun u => ?_) ?_; rotate_left; (go_simp; try with_reducible rfl); simp only [Act.put, List.setIfInBounds_toArray, List.set_cons_zero, List.set_cons_succ]
    refine Lex3.run_free (v := ?_) (by rfl) (by rfl) (fun u => ?_) ?_; rotate_left; (go_simp; try with_reducible rfl); simp only [Act.put, List.setIfInBounds_toArray, List.set_cons_zero, List.set_cons_succ]
    refine Lex3.run_free (v := ?_) (by rfl) (by rfl) (fun u => ?_) ?_; rotate_left; (go_simp; try with_reducible rfl); simp only [Act.put, List.setIfInBounds_toArray, List.set_cons_zero, List.set_cons_succ]
    refine Lex3.run_nil (fun n3 => ?_)
    go_wp2_with fail
    go_ret
    exact ⟨_, rfl, by omega, by omega, by omega, below_drewN ww _⟩
  by_cases k9 : K = 9
  · subst k9
    clear k1 k2 k6 k7 k8 
    go_wp2_with fail
    go_ret
    exact ⟨_, rfl, by omega, by omega, by omega, below_drewN ww _⟩
  by_cases k10 : K = 10
  · subst k10
    clear k1 k2 k6 k7 k8 k9
    go_wp2_with fail
    go_ret
    exact ⟨_, rfl, by omega, by omega, by omega, below_drewN ww _⟩
  by_cases k11 : K = 11
  · subst k11
    clear k1 k2 k6 k7 k8 k9 k10
    go_wp2_with fail
    go_ret
    exact ⟨_, rfl, by omega, by omega, by omega, below_drewN ww _⟩
  go_wp2_with fail
  go_ret
  exact ⟨_, rfl, by omega, by omega, by omega, below_drewN ww _⟩
end Go.Proofs.Ytlbocfinjlkebaa.Scr
