/- PlaneScript: the law. -/
import Derived.Test.YtlbocfinjlkebaaScl
import Derived.Test.YtlbocfinjlkebaaAwake
import Derived.Test.YtlbocfinjlkebaaLex3
namespace Go.Proofs.Ytlbocfinjlkebaa.Scr
open Go.RowKit Go.Proofs.Ytlbocfinjlkebaa.Byt Go.Proofs.Ytlbocfinjlkebaa.R12

/-- a script of calls -/
def Ops (w : World) (S : Option Addr) (n : Nat) : Prop := ∀ i, i < n → ∃ g o, S = some ⟨g, o, none⟩ ∧ ∃ (K I J a b c d v : Int) (A : Option Addr) (m mc : Nat) (zs : List Int),
  (∀ j, j < 9 → w.cell? ⟨g, o + i * 9 + j, none⟩ = (#[.int .i64 K, .int .i64 I, .int .i64 J, .int .i64 a, .int .i64 b, .int .i64 c, .int .i64 d, .int .i64 v, .slice A m mc] : Array Value)[j]?) ∧ -9223372036854775808 ≤ a ∧ -9223372036854775808 ≤ b ∧ Sl w A m (zs.map (.int .i64)) ∧ m ≤ mc ∧ m ≤ 70368744177664
theorem one_any (base B n : Nat) (r : Nat → Nat) (vp vq : Value) (es : List Ent) (K I J a b c d v : Int) (A : Option Addr) (m mc : Nat) (zs : List Int) (w : World) (h : Book base w B r vp vq (es.map pP) (es.map pQ) es) (hz : ∀ e ∈ es, e.zp = e.zq) (hn : es.length = n) (hm : n ≤ 8388608) (ha : -9223372036854775808 ≤ a) (hb : -9223372036854775808 ≤ b)
    (hpix : ∀ u, Below base w u → Sl u A m (zs.map (.int .i64))) (hmc : m ≤ mc) (hm1 : K = 2 → m ≤ 1048576) :
    Calls Try.prog 74 #[.pointer (some ⟨B, 0, none⟩), .agg #[.int .i64 K, .int .i64 I, .int .i64 J, .int .i64 a, .int .i64 b, .int .i64 c, .int .i64 d, .int .i64 v, .slice A m mc]] w (Goes base B n w) := by
  by_cases k1 : K = 1
  · subst k1; exact one_new base B n r vp vq es I J a b c d v A m mc w h hz hn hm
  by_cases k2 : K = 2
  · subst k2; exact one_of base B n r vp vq es I J a b c d v A m mc zs w h hz hn hm hpix hmc (hm1 rfl)
  by_cases h0 : n = 0
  · exact one_zero base B n r vp vq es K I J a b c d v A m mc w h hz hn hm h0 k1 k2
  have h1n : 1 ≤ n := by omega
  by_cases k3 : K = 3
  · subst k3; exact one_set base B n r vp vq es I J a b c d v A m mc w h hz hn hm h1n
  by_cases k4 : K = 4
  · subst k4; exact one_at base B n r vp vq es I J a b c d v A m mc w h hz hn hm h1n
  by_cases k5 : K = 5
  · subst k5; exact one_tile base B n r vp vq es I J a b c d v A m mc w h hz hn hm h1n
  by_cases k6 : K = 6
  · subst k6; exact one_cut base B n r vp vq es I J a b c d v A m mc w h hz hn hm h1n
  by_cases k7 : K = 7
  · subst k7; exact one_lay base B n r vp vq es I J a b c d v A m mc w h hz hn hm h1n ha hb
  by_cases k8 : K = 8
  · subst k8; exact one_same base B n r vp vq es I J a b c d v A m mc w h hz hn hm h1n
  by_cases k9 : K = 9
  · subst k9; exact one_ends base B n r vp vq es I J a b c d v A m mc w h hz hn hm h1n
  by_cases k10 : K = 10
  · subst k10; exact one_pix base B n r vp vq es I J a b c d v A m mc w h hz hn hm h1n
  by_cases k11 : K = 11
  · subst k11; exact one_map base B n r vp vq es I J a b c d v A m mc w h hz hn hm h1n
  by_cases k12 : K = 12
  · subst k12; exact one_nil base B n r vp vq es I J a b c d v A m mc w h hz hn hm h1n
  exact one_other base B n r vp vq es K I J a b c d v A m mc w h hz hn hm h1n ⟨k1, k2, k3, k6, k7, k11, k12⟩ ⟨k4, k5, k8, k9, k10⟩
theorem Book.new (w0 w : World) (hb : Below w0.heap.size w0 w) : Book w0.heap.size (w.alloc (.cells #[.slice none 0 0, .slice none 0 0, .bool true] 116)) w.heap.size (fun x => if x = w.heap.size then 0 else 3) (.slice none 0 0) (.slice none 0 0) [] [] [] where
  bk := Blk.new w _ _
  rowp := World.ownsRow_nil _ _ _ _
  rowq := World.ownsRow_nil _ _ _ _
  rB := if_pos rfl
  rp := fun g hg => by simp [Value.ownBlock] at hg
  rq := fun g hg => by simp [Value.ownBlock] at hg
  ent := fun k e he => by simp at he
  bB := hb.size
set_option maxRecDepth 100000 in
set_option maxHeartbeats 16000000 in
theorem law (S : Option Addr) (len cap : Nat) (w : World) (hs : Ops w S len) (hl : len ≤ cap) (hc : cap ≤ maxLen) :
    Calls Try.prog 13 #[.slice S len cap] w fun e w' => e = .returned (.bool true) ∧ Below w.heap.size w w' := by
  unfold maxLen at hc
  have HS := Lib.hid hs; clear hs
  obtain ⟨base, hbase⟩ : ∃ base, w.heap.size = base := ⟨_, rfl⟩
  rw [hbase]
  have HB := Lib.hid hbase; clear hbase
  go_enter Try.func13, Try.ntmps13
  go_wp2_with fail
  refine (awake_any w).mono ?_
  rintro e w2 ⟨rfl, b2⟩
  have hbk := Book.new w w2 b2
  have hb3 := b2.alloc b2.size (.cells #[.slice none 0 0, .slice none 0 0, .bool true] 116)
  rw [HB.out] at hbk hb3
  generalize hB : w2.heap.size = B at hbk
  have HBB := Lib.hid hB; clear hB
  go_upto_region 2 with fail
  rw [HBB.out]
  have hf : Full base (w2.alloc (.cells #[.slice none 0 0, .slice none 0 0, .bool true] 116)) B 0 := ⟨_, _, _, [], hbk, by simp, rfl⟩
  clear hbk
  generalize (w2.alloc (.cells #[.slice none 0 0, .slice none 0 0, .bool true] 116)) = w3 at hf hb3 ⊢
  go_wp2_with fail
  go_loopw [4, 5] (fun l i wr => ∃ (k n : Nat) (left : Int), k ≤ len ∧ i = .int .i64 k ∧ l = .int .i64 left ∧ 0 ≤ left ∧ (n : Int) + left ≤ 1048576 ∧ Full base wr B n ∧ Below base w wr) (fun _ i _ => len - (intOf i).toNat)
  case atStart => exact ⟨0, 0, 1048576, Nat.zero_le _, rfl, rfl, by omega, by omega, hf, hb3⟩
  clear hf hb3
  case round =>
    obtain ⟨k, n, left, hk, rfl, rfl, hl0, hln, hf, hb⟩ := hrel
    by_cases hlt : k < len
    · obtain ⟨g, o, rfl, K, I, J, a, b, c, d, v, A, m, mc, zs, hcell, ha, hb1, hsl, hmc, hmm⟩ := HS.out k hlt
      have hcell' : ∀ u, Below base w u → ∀ j, j < 9 → u.cell? ⟨g, o + k * 9 + j, none⟩ = (#[.int .i64 K, .int .i64 I, .int .i64 J, .int .i64 a, .int .i64 b, .int .i64 c, .int .i64 d, .int .i64 v, .slice A m mc] : Array Value)[j]? := fun u hu j hj => by
        have h9 := hcell j hj
        have h8 : (#[.int .i64 K, .int .i64 I, .int .i64 J, .int .i64 a, .int .i64 b, .int .i64 c, .int .i64 d, .int .i64 v, .slice A m mc] : Array Value)[j]? = some ((#[.int .i64 K, .int .i64 I, .int .i64 J, .int .i64 a, .int .i64 b, .int .i64 c, .int .i64 d, .int .i64 v, .slice A m mc] : Array Value)[j]'(by simp; omega)) := Array.getElem?_eq_getElem _
        rw [h8] at h9 ⊢
        rw [← HB.out] at hu
        exact below_cell hu h9
      have hpix : ∀ u, Below base w u → Sl u A m (zs.map (.int .i64)) := fun u hu => by rw [← HB.out] at hu; exact hsl.below hu
      have HC := Lib.hid (And.intro hcell' hpix)
      clear hcell hcell' hpix hsl
      obtain ⟨r, vp, vq, es, h, hz, hn⟩ := hf
      have c2 := h.p2
      have o0 : wr.cell? ⟨g, o + k * 9, none⟩ = some (.int .i64 K) := HC.out.1 wr hb 0 (by omega)
      have o1 : wr.cell? ⟨g, o + k * 9 + 1, none⟩ = some (.int .i64 I) := HC.out.1 wr hb 1 (by omega)
      have o2 : wr.cell? ⟨g, o + k * 9 + 2, none⟩ = some (.int .i64 J) := HC.out.1 wr hb 2 (by omega)
      have o3 : wr.cell? ⟨g, o + k * 9 + 3, none⟩ = some (.int .i64 a) := HC.out.1 wr hb 3 (by omega)
      have o4 : wr.cell? ⟨g, o + k * 9 + 4, none⟩ = some (.int .i64 b) := HC.out.1 wr hb 4 (by omega)
      have o5 : wr.cell? ⟨g, o + k * 9 + 5, none⟩ = some (.int .i64 c) := HC.out.1 wr hb 5 (by omega)
      have o6 : wr.cell? ⟨g, o + k * 9 + 6, none⟩ = some (.int .i64 d) := HC.out.1 wr hb 6 (by omega)
      have o7 : wr.cell? ⟨g, o + k * 9 + 7, none⟩ = some (.int .i64 v) := HC.out.1 wr hb 7 (by omega)
      have o8 : wr.cell? ⟨g, o + k * 9 + 8, none⟩ = some (.slice A m mc) := HC.out.1 wr hb 8 (by omega)
      go_wp2_with fail
      refine (cost_any base B n r vp vq es K I J a b c d v A m mc wr h hz hn (by omega) hmm).mono ?_
      rintro e w4 ⟨co, rfl, hc1, hc2, hc3, b4⟩
      have y1 : IntKind.i64.wrap (left - co) = left - co := IntWalk.i64_in _ (by omega)
      have h4 := h.below b4
      have hb4 := hb.trans (b4.mono h.le)
      by_cases hneg : left - co < 0
      · go_wp2_with fail
        have hf : Full base w4 B n := ⟨r, vp, vq, es, h4, hz, hn⟩
        replace hb := hb4
        clear h h4 c2 o0 o1 o2 o3 o4 o5 o6 o7 o8 b4 hb4 HC
        go_wp2_with fail
        go_loopw [6] (fun i wr => ∃ k : Nat, k ≤ n ∧ i = .int .i64 k ∧ Full base wr B n ∧ Below base w wr) (fun i _ => n - (intOf i).toNat)
        case atStart => exact ⟨0, Nat.zero_le _, rfl, hf, hb⟩
        clear hf hb
        case round =>
          obtain ⟨k, hk, rfl, ⟨r, vp, vq, es, h, hz, hn⟩, hb⟩ := hrel
          have c2 := h.p2
          by_cases hlt : k < n
          · obtain ⟨e, he⟩ : ∃ e, es[k]? = some e := ⟨_, List.getElem?_eq_getElem (by omega)⟩
            obtain ⟨bp, gp, cp, bq, gq, cq, W, H, zs, zs', rfl⟩ : ∃ bp gp cp bq gq cq W H zs zs', e = ⟨bp, gp, cp, bq, gq, cq, W, H, zs, zs'⟩ := ⟨_, _, _, _, _, _, _, _, _, _, rfl⟩
            obtain rfl : zs = zs' := hz _ (List.mem_of_getElem? he)
            obtain ⟨gP, cP, gQ, cQ, rfl, rfl, e1, e2⟩ := h.see n hn he
            dsimp only at e1 e2
            obtain ⟨⟨hp, hq⟩, _⟩ := h.ent k _ he
            dsimp only at hp hq
            have hsz := hp.size
            obtain ⟨N, hN⟩ : ∃ N, W * H = N := ⟨_, rfl⟩
            rw [hN] at hsz
            have HN := Lib.hid hN; clear hN
            have c0 := h.p0
            have c1 := h.p1
            have w0 := hq.c0
            have w1 := hq.c1
            have w2 := hq.c2
            rw [HN.out] at w2
            go_wp2_with fail
            refine (PI.size_any bp gp W H cp _ wr hp).mono ?_
            rintro e w3 ⟨rfl, k3, rfl⟩
            go_upto_region 13 with fail
            refine Lex3.wp_region_lex [] (fun u => u.cell? ⟨B, 0, none⟩ = some (.slice (some ⟨gP, 0, none⟩) n cP) ∧ u.cell? ⟨B, 1, none⟩ = some (.slice (some ⟨gQ, 0, none⟩) n cQ) ∧ u.cell? ⟨gP, k, none⟩ = some (.pointer (some ⟨bp, 0, none⟩)) ∧ u.cell? ⟨gQ, k, none⟩ = some (.pointer (some ⟨bq, 0, none⟩)) ∧ u.cell? ⟨bq, 0, none⟩ = some (.int .i64 W) ∧ u.cell? ⟨bq, 1, none⟩ = some (.int .i64 H) ∧ u.cell? ⟨bq, 2, none⟩ = some (.slice (some ⟨gq, 0, none⟩) N cq)) (fun u n h => h) ⟨c0, c1, e1, e2, w0, w1, w2⟩ (by kernel_rfl) (by kernel_rfl) ?_
            refine Lex3.run_free (v := ?_) (by rfl) (by rfl) (fun u => ?_) ?_; rotate_left; (go_simp; try with_reducible rfl); simp only [Act.put, List.setIfInBounds_toArray, List.set_cons_zero, List.set_cons_succ]
            refine Lex3.run_free (v := ?_) (by rfl) (by rfl) (fun u => ?_) ?_; rotate_left; (go_simp; try with_reducible rfl); simp only [Act.put, List.setIfInBounds_toArray, List.set_cons_zero, List.set_cons_succ]
            refine Lex3.run_free (v := ?_) (by rfl) (by rfl) (fun u => ?_) ?_; rotate_left; (go_simp; try with_reducible rfl); simp only [Act.put, List.setIfInBounds_toArray, List.set_cons_zero, List.set_cons_succ]
            refine Lex3.run_free (v := ?_) (by rfl) (by rfl) (fun u => ?_) ?_; rotate_left; (go_simp; try with_reducible rfl); simp only [Act.put, List.setIfInBounds_toArray, List.set_cons_zero, List.set_cons_succ]
            refine Lex3.run_free (v := ?_) (by rfl) (by rfl) (fun u => ?_) ?_; rotate_left; (go_simp; try with_reducible rfl); simp only [Act.put, List.setIfInBounds_toArray, List.set_cons_zero, List.set_cons_succ]
            refine Lex3.run_load (v := ?_) (by rfl) (by rfl) (fun u hu => ?_) ?_; rotate_left; (obtain ⟨hu0, hu1, hu2, hu3, hu4, hu5, hu6⟩ := hu; go_simp; try with_reducible rfl); simp only [Act.put, List.setIfInBounds_toArray, List.set_cons_zero, List.set_cons_succ]
            refine Lex3.run_free (v := ?_) (by rfl) (by rfl) (fun u => ?_) ?_; rotate_left; (go_simp; try with_reducible rfl); simp only [Act.put, List.setIfInBounds_toArray, List.set_cons_zero, List.set_cons_succ]
            refine Lex3.run_free (v := ?_) (by rfl) (by rfl) (fun u => ?_) ?_; rotate_left; (go_simp; try with_reducible rfl); simp only [Act.put, List.setIfInBounds_toArray, List.set_cons_zero, List.set_cons_succ]
            refine Lex3.run_load (v := ?_) (by rfl) (by rfl) (fun u hu => ?_) ?_; rotate_left; (obtain ⟨hu0, hu1, hu2, hu3, hu4, hu5, hu6⟩ := hu; go_simp; try with_reducible rfl); simp only [Act.put, List.setIfInBounds_toArray, List.set_cons_zero, List.set_cons_succ]
            refine Lex3.run_free (v := ?_) (by rfl) (by rfl) (fun u => ?_) ?_; rotate_left; (go_simp; try with_reducible rfl); simp only [Act.put, List.setIfInBounds_toArray, List.set_cons_zero, List.set_cons_succ]
            refine Lex3.run_free (v := ?_) (by rfl) (by rfl) (fun u => ?_) ?_; rotate_left; (go_simp; try with_reducible rfl); simp only [Act.put, List.setIfInBounds_toArray, List.set_cons_zero, List.set_cons_succ]
            refine Lex3.run_load (v := ?_) (by rfl) (by rfl) (fun u hu => ?_) ?_; rotate_left; (obtain ⟨hu0, hu1, hu2, hu3, hu4, hu5, hu6⟩ := hu; go_simp; try with_reducible rfl); simp only [Act.put, List.setIfInBounds_toArray, List.set_cons_zero, List.set_cons_succ]
            refine Lex3.run_free (v := ?_) (by rfl) (by rfl) (fun u => ?_) ?_; rotate_left; (go_simp; try with_reducible rfl); simp only [Act.put, List.setIfInBounds_toArray, List.set_cons_zero, List.set_cons_succ]
            refine Lex3.run_free (v := ?_) (by rfl) (by rfl) (fun u => ?_) ?_; rotate_left; (go_simp; try with_reducible rfl); simp only [Act.put, List.setIfInBounds_toArray, List.set_cons_zero, List.set_cons_succ]
            refine Lex3.run_free (v := ?_) (by rfl) (by kernel_rfl) (fun u => ?_) ?_; rotate_left; (go_simp; try with_reducible rfl); simp only [Act.put, List.setIfInBounds_toArray, List.set_cons_zero, List.set_cons_succ]
            refine Lex3.run_free (v := ?_) (by rfl) (by kernel_rfl) (fun u => ?_) ?_; rotate_left; (go_simp; try with_reducible rfl); simp only [Act.put, List.setIfInBounds_toArray, List.set_cons_zero, List.set_cons_succ]
            refine Lex3.run_free (v := ?_) (by rfl) (by kernel_rfl) (fun u => ?_) ?_; rotate_left; (go_simp; try with_reducible rfl); simp only [Act.put, List.setIfInBounds_toArray, List.set_cons_zero, List.set_cons_succ]
            refine Lex3.run_free (v := ?_) (by rfl) (by kernel_rfl) (fun u => ?_) ?_; rotate_left; (go_simp; try with_reducible rfl); simp only [Act.put, List.setIfInBounds_toArray, List.set_cons_zero, List.set_cons_succ]
            refine Lex3.run_load (v := ?_) (by rfl) (by kernel_rfl) (fun u hu => ?_) ?_; rotate_left; (obtain ⟨hu0, hu1, hu2, hu3, hu4, hu5, hu6⟩ := hu; go_simp; try with_reducible rfl); simp only [Act.put, List.setIfInBounds_toArray, List.set_cons_zero, List.set_cons_succ]
            refine Lex3.run_free (v := ?_) (by rfl) (by kernel_rfl) (fun u => ?_) ?_; rotate_left; (go_simp; try with_reducible rfl); simp only [Act.put, List.setIfInBounds_toArray, List.set_cons_zero, List.set_cons_succ]
            refine Lex3.run_free (v := ?_) (by rfl) (by kernel_rfl) (fun u => ?_) ?_; rotate_left; (go_simp; try with_reducible rfl); simp only [Act.put, List.setIfInBounds_toArray, List.set_cons_zero, List.set_cons_succ]
            refine Lex3.run_load (v := ?_) (by rfl) (by kernel_rfl) (fun u hu => ?_) ?_; rotate_left; (obtain ⟨hu0, hu1, hu2, hu3, hu4, hu5, hu6⟩ := hu; go_simp; try with_reducible rfl); simp only [Act.put, List.setIfInBounds_toArray, List.set_cons_zero, List.set_cons_succ]
            refine Lex3.run_free (v := ?_) (by rfl) (by kernel_rfl) (fun u => ?_) ?_; rotate_left; (go_simp; try with_reducible rfl); simp only [Act.put, List.setIfInBounds_toArray, List.set_cons_zero, List.set_cons_succ]
            refine Lex3.run_free (v := ?_) (by rfl) (by kernel_rfl) (fun u => ?_) ?_; rotate_left; (go_simp; try with_reducible rfl); simp only [Act.put, List.setIfInBounds_toArray, List.set_cons_zero, List.set_cons_succ]
            refine Lex3.run_load (v := ?_) (by rfl) (by kernel_rfl) (fun u hu => ?_) ?_; rotate_left; (obtain ⟨hu0, hu1, hu2, hu3, hu4, hu5, hu6⟩ := hu; go_simp; try with_reducible rfl); simp only [Act.put, List.setIfInBounds_toArray, List.set_cons_zero, List.set_cons_succ]
            refine Lex3.run_free (v := ?_) (by rfl) (by kernel_rfl) (fun u => ?_) ?_; rotate_left; (go_simp; try with_reducible rfl); simp only [Act.put, List.setIfInBounds_toArray, List.set_cons_zero, List.set_cons_succ]
            refine Lex3.run_free (v := ?_) (by rfl) (by rfl) (fun u => ?_) ?_; rotate_left; (go_simp; try with_reducible rfl); simp only [Act.put, List.setIfInBounds_toArray, List.set_cons_zero, List.set_cons_succ]
            refine Lex3.run_free (v := ?_) (by rfl) (by rfl) (fun u => ?_) ?_; rotate_left; (go_simp; try with_reducible rfl); simp only [Act.put, List.setIfInBounds_toArray, List.set_cons_zero, List.set_cons_succ]
            refine Lex3.run_free (v := ?_) (by rfl) (by kernel_rfl) (fun u => ?_) ?_; rotate_left; (go_simp; try with_reducible rfl); simp only [Act.put, List.setIfInBounds_toArray, List.set_cons_zero, List.set_cons_succ]
            refine Lex3.run_free (v := ?_) (by rfl) (by kernel_rfl) (fun u => ?_) ?_; rotate_left; (go_simp; try with_reducible rfl); simp only [Act.put, List.setIfInBounds_toArray, List.set_cons_zero, List.set_cons_succ]
            refine Lex3.run_free (v := ?_) (by rfl) (by kernel_rfl) (fun u => ?_) ?_; rotate_left; (go_simp; try with_reducible rfl); simp only [Act.put, List.setIfInBounds_toArray, List.set_cons_zero, List.set_cons_succ]
            refine Lex3.run_load (v := ?_) (by rfl) (by kernel_rfl) (fun u hu => ?_) ?_; rotate_left; (obtain ⟨hu0, hu1, hu2, hu3, hu4, hu5, hu6⟩ := hu; go_simp; try with_reducible rfl); simp only [Act.put, List.setIfInBounds_toArray, List.set_cons_zero, List.set_cons_succ]
            refine Lex3.run_free (v := ?_) (by rfl) (by kernel_rfl) (fun u => ?_) ?_; rotate_left; (go_simp; try with_reducible rfl); simp only [Act.put, List.setIfInBounds_toArray, List.set_cons_zero, List.set_cons_succ]
            refine Lex3.run_free (v := ?_) (by rfl) (by kernel_rfl) (fun u => ?_) ?_; rotate_left; (go_simp; try with_reducible rfl); simp only [Act.put, List.setIfInBounds_toArray, List.set_cons_zero, List.set_cons_succ]
            refine Lex3.run_load (v := ?_) (by rfl) (by kernel_rfl) (fun u hu => ?_) ?_; rotate_left; (obtain ⟨hu0, hu1, hu2, hu3, hu4, hu5, hu6⟩ := hu; go_simp; try with_reducible rfl); simp only [Act.put, List.setIfInBounds_toArray, List.set_cons_zero, List.set_cons_succ]
            refine Lex3.run_eff (by rfl) (by rfl) (fun n' K' hK => ?_)
            go_simp
            refine (PI.pix_any bp gp W H cp _ _ (hp.drewN _) (ints_oneCell .i64 zs)).mono ?_
            rintro e w4 ⟨v4, rfl, ⟨g4, k4, cur4, rfl, m1, m2, m3, m4, m5, m6⟩, b4⟩
            have s4 : Sl w4 (some ⟨g4, 0, none⟩) (W * H) (zs.map (.int .i64)) := Sl.of_blk m1 m3 (by omega)
            rw [HN.out] at s4 ⊢
            have b14 : Below wr.heap.size wr w4 := below_then (below_drewN (Below.refl _ _) _) b4
            have h4 := h.below b14
            have s5 : Sl w4 (some ⟨gq, 0, none⟩) N (zs.map (.int .i64)) := by
              obtain ⟨cur, q1, q2, q3⟩ := (h4.ent k _ he).1.2.row
              have q4 := (h4.ent k _ he).1.2.cap
              dsimp only at q1 q2 q3 q4
              rw [HN.out] at q3 q4
              exact Sl.of_blk q1 q3 (by omega)
            refine hK _ _ ⟨(h4).p0, (h4).p1, (h4).cellP hn he, (h4).cellQ hn he, ((h4).ent k _ he).1.2.c0, ((h4).ent k _ he).1.2.c1, by rw [← HN.out]; exact ((h4).ent k _ he).1.2.c2⟩ ?_
            clear hK K'
            try simp only [Act.put, List.setIfInBounds_toArray, List.set_cons_zero, List.set_cons_succ]
            refine Lex3.run_free (v := ?_) (by rfl) (by kernel_rfl) (fun u => ?_) ?_; rotate_left; (go_simp; try with_reducible rfl); simp only [Act.put, List.setIfInBounds_toArray, List.set_cons_zero, List.set_cons_succ]
            refine Lex3.run_free (v := ?_) (by rfl) (by kernel_rfl) (fun u => ?_) ?_; rotate_left; (go_simp; try with_reducible rfl); simp only [Act.put, List.setIfInBounds_toArray, List.set_cons_zero, List.set_cons_succ]
            refine Lex3.run_free (v := ?_) (by rfl) (by kernel_rfl) (fun u => ?_) ?_; rotate_left; (go_simp; try with_reducible rfl); simp only [Act.put, List.setIfInBounds_toArray, List.set_cons_zero, List.set_cons_succ]
            refine Lex3.run_load (v := ?_) (by rfl) (by kernel_rfl) (fun u hu => ?_) ?_; rotate_left; (obtain ⟨hu0, hu1, hu2, hu3, hu4, hu5, hu6⟩ := hu; go_simp; try with_reducible rfl); simp only [Act.put, List.setIfInBounds_toArray, List.set_cons_zero, List.set_cons_succ]
            refine Lex3.run_free (v := ?_) (by rfl) (by kernel_rfl) (fun u => ?_) ?_; rotate_left; (go_simp; try with_reducible rfl); simp only [Act.put, List.setIfInBounds_toArray, List.set_cons_zero, List.set_cons_succ]
            refine Lex3.run_free (v := ?_) (by rfl) (by kernel_rfl) (fun u => ?_) ?_; rotate_left; (go_simp; try with_reducible rfl); simp only [Act.put, List.setIfInBounds_toArray, List.set_cons_zero, List.set_cons_succ]
            refine Lex3.run_load (v := ?_) (by rfl) (by kernel_rfl) (fun u hu => ?_) ?_; rotate_left; (obtain ⟨hu0, hu1, hu2, hu3, hu4, hu5, hu6⟩ := hu; go_simp; try with_reducible rfl); simp only [Act.put, List.setIfInBounds_toArray, List.set_cons_zero, List.set_cons_succ]
            refine Lex3.run_free (v := ?_) (by rfl) (by kernel_rfl) (fun u => ?_) ?_; rotate_left; (go_simp; try with_reducible rfl); simp only [Act.put, List.setIfInBounds_toArray, List.set_cons_zero, List.set_cons_succ]
            refine Lex3.run_free (v := ?_) (by rfl) (by kernel_rfl) (fun u => ?_) ?_; rotate_left; (go_simp; try with_reducible rfl); simp only [Act.put, List.setIfInBounds_toArray, List.set_cons_zero, List.set_cons_succ]
            refine Lex3.run_load (v := ?_) (by rfl) (by kernel_rfl) (fun u hu => ?_) ?_; rotate_left; (obtain ⟨hu0, hu1, hu2, hu3, hu4, hu5, hu6⟩ := hu; go_simp; try with_reducible rfl); simp only [Act.put, List.setIfInBounds_toArray, List.set_cons_zero, List.set_cons_succ]
            refine Lex3.run_eff (by rfl) (by rfl) (fun n'' K' hK => ?_)
            go_simp
            refine (same12_any _ _ N N _ _ zs zs _ (s4.drewN _) (s5.drewN _) (by omega) (by omega)).mono ?_
            rintro e w5 ⟨rfl, k5, rfl⟩
            rw [eqLI]
            refine hK _ _ ⟨(h4).p0, (h4).p1, (h4).cellP hn he, (h4).cellQ hn he, ((h4).ent k _ he).1.2.c0, ((h4).ent k _ he).1.2.c1, by rw [← HN.out]; exact ((h4).ent k _ he).1.2.c2⟩ ?_
            have hC2 : ∀ N, (w4.drewN N).cell? ⟨B, 2, none⟩ = some (.bool true) := fun _ => h4.p2
            have hF2 : ∀ N, (w4.drewN N).frozen? ⟨B, 2, none⟩ = false := fun _ => h4.frozen 2
            clear hK K'
            try simp only [Act.put, List.setIfInBounds_toArray, List.set_cons_zero, List.set_cons_succ]
            refine Lex3.run_free (v := ?_) (by rfl) (by rfl) (fun u => ?_) ?_; rotate_left; (go_simp; try with_reducible rfl); simp only [Act.put, List.setIfInBounds_toArray, List.set_cons_zero, List.set_cons_succ]
            refine Lex3.run_free (v := ?_) (by rfl) (by rfl) (fun u => ?_) ?_; rotate_left; (go_simp; try with_reducible rfl); simp only [Act.put, List.setIfInBounds_toArray, List.set_cons_zero, List.set_cons_succ]
            refine Lex3.run_free (v := ?_) (by rfl) (by rfl) (fun u => ?_) ?_; rotate_left; (go_simp; try with_reducible rfl); simp only [Act.put, List.setIfInBounds_toArray, List.set_cons_zero, List.set_cons_succ]
            refine Lex3.run_eff (by rfl) (by rfl) (fun n9 K' hK => ?_)
            go_simp
            refine hK _ _ ⟨((h4.drewN _).mark).p0, ((h4.drewN _).mark).p1, ((h4.drewN _).mark).cellP hn he, ((h4.drewN _).mark).cellQ hn he, (((h4.drewN _).mark).ent k _ he).1.2.c0, (((h4.drewN _).mark).ent k _ he).1.2.c1, by rw [← HN.out]; exact (((h4.drewN _).mark).ent k _ he).1.2.c2⟩ ?_
            clear hK K'
            try simp only [Act.put, List.setIfInBounds_toArray, List.set_cons_zero, List.set_cons_succ]

            refine Lex3.run_nil (fun n3 => ?_)
            go_wp2_with fail
            go_roundw
            case rel => exact ⟨k + 1, by omega, by go_num, ⟨r, _, _, es, (h4.drewN _).mark.drewN _, hz, hn⟩, below_drewN ((h4.drewN _).markB (below_drewN (hb.trans (b14.mono h.le)) _)) _⟩
            case measure => simp [intOf]; omega
          · obtain ⟨Ap, cap, rfl⟩ := h.lenP hn
            have c0 := h.p0
            go_wp2_with fail
            go_ret
            exact ⟨rfl, hb⟩
      · clear o0 o1 o2 o3 o4 o5 o6 o7 o8
        have o0 : w4.cell? ⟨g, o + k * 9, none⟩ = some (.int .i64 K) := HC.out.1 w4 hb4 0 (by omega)
        have o1 : w4.cell? ⟨g, o + k * 9 + 1, none⟩ = some (.int .i64 I) := HC.out.1 w4 hb4 1 (by omega)
        have o2 : w4.cell? ⟨g, o + k * 9 + 2, none⟩ = some (.int .i64 J) := HC.out.1 w4 hb4 2 (by omega)
        have o3 : w4.cell? ⟨g, o + k * 9 + 3, none⟩ = some (.int .i64 a) := HC.out.1 w4 hb4 3 (by omega)
        have o4 : w4.cell? ⟨g, o + k * 9 + 4, none⟩ = some (.int .i64 b) := HC.out.1 w4 hb4 4 (by omega)
        have o5 : w4.cell? ⟨g, o + k * 9 + 5, none⟩ = some (.int .i64 c) := HC.out.1 w4 hb4 5 (by omega)
        have o6 : w4.cell? ⟨g, o + k * 9 + 6, none⟩ = some (.int .i64 d) := HC.out.1 w4 hb4 6 (by omega)
        have o7 : w4.cell? ⟨g, o + k * 9 + 7, none⟩ = some (.int .i64 v) := HC.out.1 w4 hb4 7 (by omega)
        have o8 : w4.cell? ⟨g, o + k * 9 + 8, none⟩ = some (.slice A m mc) := HC.out.1 w4 hb4 8 (by omega)
        go_wp2_with fail
        refine (one_any base B n r vp vq es K I J a b c d v A m mc zs w4 h4 hz hn (by omega) ha hb1 (fun u hu => HC.out.2 u (hb4.trans hu)) hmc (fun h2 => by have := hc3 h2; omega)).mono ?_
        rintro e w5 ⟨rfl, b5, n5, hf5, hn5⟩
        go_wp2_with fail
        go_roundw
        case rel => exact ⟨k + 1, n5, left - co, by omega, by go_num, rfl, by omega, by omega, hf5, hb4.trans b5⟩
        case measure => simp [intOf]; omega
    · go_wp2_with fail
      go_wp2_with fail
      go_loopw [6] (fun i wr => ∃ k : Nat, k ≤ n ∧ i = .int .i64 k ∧ Full base wr B n ∧ Below base w wr) (fun i _ => n - (intOf i).toNat)
      case atStart => exact ⟨0, Nat.zero_le _, rfl, hf, hb⟩
      clear hf hb
      case round =>
        obtain ⟨k, hk, rfl, ⟨r, vp, vq, es, h, hz, hn⟩, hb⟩ := hrel
        have c2 := h.p2
        by_cases hlt : k < n
        · obtain ⟨e, he⟩ : ∃ e, es[k]? = some e := ⟨_, List.getElem?_eq_getElem (by omega)⟩
          obtain ⟨bp, gp, cp, bq, gq, cq, W, H, zs, zs', rfl⟩ : ∃ bp gp cp bq gq cq W H zs zs', e = ⟨bp, gp, cp, bq, gq, cq, W, H, zs, zs'⟩ := ⟨_, _, _, _, _, _, _, _, _, _, rfl⟩
          obtain rfl : zs = zs' := hz _ (List.mem_of_getElem? he)
          obtain ⟨gP, cP, gQ, cQ, rfl, rfl, e1, e2⟩ := h.see n hn he
          dsimp only at e1 e2
          obtain ⟨⟨hp, hq⟩, _⟩ := h.ent k _ he
          dsimp only at hp hq
          have hsz := hp.size
          obtain ⟨N, hN⟩ : ∃ N, W * H = N := ⟨_, rfl⟩
          rw [hN] at hsz
          have HN := Lib.hid hN; clear hN
          have c0 := h.p0
          have c1 := h.p1
          have w0 := hq.c0
          have w1 := hq.c1
          have w2 := hq.c2
          rw [HN.out] at w2
          go_wp2_with fail
          refine (PI.size_any bp gp W H cp _ wr hp).mono ?_
          rintro e w3 ⟨rfl, k3, rfl⟩
          go_upto_region 13 with fail
          refine Lex3.wp_region_lex [] (fun u => u.cell? ⟨B, 0, none⟩ = some (.slice (some ⟨gP, 0, none⟩) n cP) ∧ u.cell? ⟨B, 1, none⟩ = some (.slice (some ⟨gQ, 0, none⟩) n cQ) ∧ u.cell? ⟨gP, k, none⟩ = some (.pointer (some ⟨bp, 0, none⟩)) ∧ u.cell? ⟨gQ, k, none⟩ = some (.pointer (some ⟨bq, 0, none⟩)) ∧ u.cell? ⟨bq, 0, none⟩ = some (.int .i64 W) ∧ u.cell? ⟨bq, 1, none⟩ = some (.int .i64 H) ∧ u.cell? ⟨bq, 2, none⟩ = some (.slice (some ⟨gq, 0, none⟩) N cq)) (fun u n h => h) ⟨c0, c1, e1, e2, w0, w1, w2⟩ (by kernel_rfl) (by kernel_rfl) ?_
          refine Lex3.run_free (v := ?_) (by rfl) (by rfl) (fun u => ?_) ?_; rotate_left; (go_simp; try with_reducible rfl); simp only [Act.put, List.setIfInBounds_toArray, List.set_cons_zero, List.set_cons_succ]
          refine Lex3.run_free (v := ?_) (by rfl) (by rfl) (fun u => ?_) ?_; rotate_left; (go_simp; try with_reducible rfl); simp only [Act.put, List.setIfInBounds_toArray, List.set_cons_zero, List.set_cons_succ]
          refine Lex3.run_free (v := ?_) (by rfl) (by rfl) (fun u => ?_) ?_; rotate_left; (go_simp; try with_reducible rfl); simp only [Act.put, List.setIfInBounds_toArray, List.set_cons_zero, List.set_cons_succ]
          refine Lex3.run_free (v := ?_) (by rfl) (by rfl) (fun u => ?_) ?_; rotate_left; (go_simp; try with_reducible rfl); simp only [Act.put, List.setIfInBounds_toArray, List.set_cons_zero, List.set_cons_succ]
          refine Lex3.run_free (v := ?_) (by rfl) (by rfl) (fun u => ?_) ?_; rotate_left; (go_simp; try with_reducible rfl); simp only [Act.put, List.setIfInBounds_toArray, List.set_cons_zero, List.set_cons_succ]
          refine Lex3.run_load (v := ?_) (by rfl) (by rfl) (fun u hu => ?_) ?_; rotate_left; (obtain ⟨hu0, hu1, hu2, hu3, hu4, hu5, hu6⟩ := hu; go_simp; try with_reducible rfl); simp only [Act.put, List.setIfInBounds_toArray, List.set_cons_zero, List.set_cons_succ]
          refine Lex3.run_free (v := ?_) (by rfl) (by rfl) (fun u => ?_) ?_; rotate_left; (go_simp; try with_reducible rfl); simp only [Act.put, List.setIfInBounds_toArray, List.set_cons_zero, List.set_cons_succ]
          refine Lex3.run_free (v := ?_) (by rfl) (by rfl) (fun u => ?_) ?_; rotate_left; (go_simp; try with_reducible rfl); simp only [Act.put, List.setIfInBounds_toArray, List.set_cons_zero, List.set_cons_succ]
          refine Lex3.run_load (v := ?_) (by rfl) (by rfl) (fun u hu => ?_) ?_; rotate_left; (obtain ⟨hu0, hu1, hu2, hu3, hu4, hu5, hu6⟩ := hu; go_simp; try with_reducible rfl); simp only [Act.put, List.setIfInBounds_toArray, List.set_cons_zero, List.set_cons_succ]
          refine Lex3.run_free (v := ?_) (by rfl) (by rfl) (fun u => ?_) ?_; rotate_left; (go_simp; try with_reducible rfl); simp only [Act.put, List.setIfInBounds_toArray, List.set_cons_zero, List.set_cons_succ]
          refine Lex3.run_free (v := ?_) (by rfl) (by rfl) (fun u => ?_) ?_; rotate_left; (go_simp; try with_reducible rfl); simp only [Act.put, List.setIfInBounds_toArray, List.set_cons_zero, List.set_cons_succ]
          refine Lex3.run_load (v := ?_) (by rfl) (by rfl) (fun u hu => ?_) ?_; rotate_left; (obtain ⟨hu0, hu1, hu2, hu3, hu4, hu5, hu6⟩ := hu; go_simp; try with_reducible rfl); simp only [Act.put, List.setIfInBounds_toArray, List.set_cons_zero, List.set_cons_succ]
          refine Lex3.run_free (v := ?_) (by rfl) (by rfl) (fun u => ?_) ?_; rotate_left; (go_simp; try with_reducible rfl); simp only [Act.put, List.setIfInBounds_toArray, List.set_cons_zero, List.set_cons_succ]
          refine Lex3.run_free (v := ?_) (by rfl) (by rfl) (fun u => ?_) ?_; rotate_left; (go_simp; try with_reducible rfl); simp only [Act.put, List.setIfInBounds_toArray, List.set_cons_zero, List.set_cons_succ]
          refine Lex3.run_free (v := ?_) (by rfl) (by kernel_rfl) (fun u => ?_) ?_; rotate_left; (go_simp; try with_reducible rfl); simp only [Act.put, List.setIfInBounds_toArray, List.set_cons_zero, List.set_cons_succ]
          refine Lex3.run_free (v := ?_) (by rfl) (by kernel_rfl) (fun u => ?_) ?_; rotate_left; (go_simp; try with_reducible rfl); simp only [Act.put, List.setIfInBounds_toArray, List.set_cons_zero, List.set_cons_succ]
          refine Lex3.run_free (v := ?_) (by rfl) (by kernel_rfl) (fun u => ?_) ?_; rotate_left; (go_simp; try with_reducible rfl); simp only [Act.put, List.setIfInBounds_toArray, List.set_cons_zero, List.set_cons_succ]
          refine Lex3.run_free (v := ?_) (by rfl) (by kernel_rfl) (fun u => ?_) ?_; rotate_left; (go_simp; try with_reducible rfl); simp only [Act.put, List.setIfInBounds_toArray, List.set_cons_zero, List.set_cons_succ]
          refine Lex3.run_load (v := ?_) (by rfl) (by kernel_rfl) (fun u hu => ?_) ?_; rotate_left; (obtain ⟨hu0, hu1, hu2, hu3, hu4, hu5, hu6⟩ := hu; go_simp; try with_reducible rfl); simp only [Act.put, List.setIfInBounds_toArray, List.set_cons_zero, List.set_cons_succ]
          refine Lex3.run_free (v := ?_) (by rfl) (by kernel_rfl) (fun u => ?_) ?_; rotate_left; (go_simp; try with_reducible rfl); simp only [Act.put, List.setIfInBounds_toArray, List.set_cons_zero, List.set_cons_succ]
          refine Lex3.run_free (v := ?_) (by rfl) (by kernel_rfl) (fun u => ?_) ?_; rotate_left; (go_simp; try with_reducible rfl); simp only [Act.put, List.setIfInBounds_toArray, List.set_cons_zero, List.set_cons_succ]
          refine Lex3.run_load (v := ?_) (by rfl) (by kernel_rfl) (fun u hu => ?_) ?_; rotate_left; (obtain ⟨hu0, hu1, hu2, hu3, hu4, hu5, hu6⟩ := hu; go_simp; try with_reducible rfl); simp only [Act.put, List.setIfInBounds_toArray, List.set_cons_zero, List.set_cons_succ]
          refine Lex3.run_free (v := ?_) (by rfl) (by kernel_rfl) (fun u => ?_) ?_; rotate_left; (go_simp; try with_reducible rfl); simp only [Act.put, List.setIfInBounds_toArray, List.set_cons_zero, List.set_cons_succ]
          refine Lex3.run_free (v := ?_) (by rfl) (by kernel_rfl) (fun u => ?_) ?_; rotate_left; (go_simp; try with_reducible rfl); simp only [Act.put, List.setIfInBounds_toArray, List.set_cons_zero, List.set_cons_succ]
          refine Lex3.run_load (v := ?_) (by rfl) (by kernel_rfl) (fun u hu => ?_) ?_; rotate_left; (obtain ⟨hu0, hu1, hu2, hu3, hu4, hu5, hu6⟩ := hu; go_simp; try with_reducible rfl); simp only [Act.put, List.setIfInBounds_toArray, List.set_cons_zero, List.set_cons_succ]
          refine Lex3.run_free (v := ?_) (by rfl) (by kernel_rfl) (fun u => ?_) ?_; rotate_left; (go_simp; try with_reducible rfl); simp only [Act.put, List.setIfInBounds_toArray, List.set_cons_zero, List.set_cons_succ]
          refine Lex3.run_free (v := ?_) (by rfl) (by rfl) (fun u => ?_) ?_; rotate_left; (go_simp; try with_reducible rfl); simp only [Act.put, List.setIfInBounds_toArray, List.set_cons_zero, List.set_cons_succ]
          refine Lex3.run_free (v := ?_) (by rfl) (by rfl) (fun u => ?_) ?_; rotate_left; (go_simp; try with_reducible rfl); simp only [Act.put, List.setIfInBounds_toArray, List.set_cons_zero, List.set_cons_succ]
          refine Lex3.run_free (v := ?_) (by rfl) (by kernel_rfl) (fun u => ?_) ?_; rotate_left; (go_simp; try with_reducible rfl); simp only [Act.put, List.setIfInBounds_toArray, List.set_cons_zero, List.set_cons_succ]
          refine Lex3.run_free (v := ?_) (by rfl) (by kernel_rfl) (fun u => ?_) ?_; rotate_left; (go_simp; try with_reducible rfl); simp only [Act.put, List.setIfInBounds_toArray, List.set_cons_zero, List.set_cons_succ]
          refine Lex3.run_free (v := ?_) (by rfl) (by kernel_rfl) (fun u => ?_) ?_; rotate_left; (go_simp; try with_reducible rfl); simp only [Act.put, List.setIfInBounds_toArray, List.set_cons_zero, List.set_cons_succ]
          refine Lex3.run_load (v := ?_) (by rfl) (by kernel_rfl) (fun u hu => ?_) ?_; rotate_left; (obtain ⟨hu0, hu1, hu2, hu3, hu4, hu5, hu6⟩ := hu; go_simp; try with_reducible rfl); simp only [Act.put, List.setIfInBounds_toArray, List.set_cons_zero, List.set_cons_succ]
          refine Lex3.run_free (v := ?_) (by rfl) (by kernel_rfl) (fun u => ?_) ?_; rotate_left; (go_simp; try with_reducible rfl); simp only [Act.put, List.setIfInBounds_toArray, List.set_cons_zero, List.set_cons_succ]
          refine Lex3.run_free (v := ?_) (by rfl) (by kernel_rfl) (fun u => ?_) ?_; rotate_left; (go_simp; try with_reducible rfl); simp only [Act.put, List.setIfInBounds_toArray, List.set_cons_zero, List.set_cons_succ]
          refine Lex3.run_load (v := ?_) (by rfl) (by kernel_rfl) (fun u hu => ?_) ?_; rotate_left; (obtain ⟨hu0, hu1, hu2, hu3, hu4, hu5, hu6⟩ := hu; go_simp; try with_reducible rfl); simp only [Act.put, List.setIfInBounds_toArray, List.set_cons_zero, List.set_cons_succ]
          refine Lex3.run_eff (by rfl) (by rfl) (fun n' K' hK => ?_)
          go_simp
          refine (PI.pix_any bp gp W H cp _ _ (hp.drewN _) (ints_oneCell .i64 zs)).mono ?_
          rintro e w4 ⟨v4, rfl, ⟨g4, k4, cur4, rfl, m1, m2, m3, m4, m5, m6⟩, b4⟩
          have s4 : Sl w4 (some ⟨g4, 0, none⟩) (W * H) (zs.map (.int .i64)) := Sl.of_blk m1 m3 (by omega)
          rw [HN.out] at s4 ⊢
          have b14 : Below wr.heap.size wr w4 := below_then (below_drewN (Below.refl _ _) _) b4
          have h4 := h.below b14
          have s5 : Sl w4 (some ⟨gq, 0, none⟩) N (zs.map (.int .i64)) := by
            obtain ⟨cur, q1, q2, q3⟩ := (h4.ent k _ he).1.2.row
            have q4 := (h4.ent k _ he).1.2.cap
            dsimp only at q1 q2 q3 q4
            rw [HN.out] at q3 q4
            exact Sl.of_blk q1 q3 (by omega)
          refine hK _ _ ⟨(h4).p0, (h4).p1, (h4).cellP hn he, (h4).cellQ hn he, ((h4).ent k _ he).1.2.c0, ((h4).ent k _ he).1.2.c1, by rw [← HN.out]; exact ((h4).ent k _ he).1.2.c2⟩ ?_
          clear hK K'
          try simp only [Act.put, List.setIfInBounds_toArray, List.set_cons_zero, List.set_cons_succ]
          refine Lex3.run_free (v := ?_) (by rfl) (by kernel_rfl) (fun u => ?_) ?_; rotate_left; (go_simp; try with_reducible rfl); simp only [Act.put, List.setIfInBounds_toArray, List.set_cons_zero, List.set_cons_succ]
          refine Lex3.run_free (v := ?_) (by rfl) (by kernel_rfl) (fun u => ?_) ?_; rotate_left; (go_simp; try with_reducible rfl); simp only [Act.put, List.setIfInBounds_toArray, List.set_cons_zero, List.set_cons_succ]
          refine Lex3.run_free (v := ?_) (by rfl) (by kernel_rfl) (fun u => ?_) ?_; rotate_left; (go_simp; try with_reducible rfl); simp only [Act.put, List.setIfInBounds_toArray, List.set_cons_zero, List.set_cons_succ]
          refine Lex3.run_load (v := ?_) (by rfl) (by kernel_rfl) (fun u hu => ?_) ?_; rotate_left; (obtain ⟨hu0, hu1, hu2, hu3, hu4, hu5, hu6⟩ := hu; go_simp; try with_reducible rfl); simp only [Act.put, List.setIfInBounds_toArray, List.set_cons_zero, List.set_cons_succ]
          refine Lex3.run_free (v := ?_) (by rfl) (by kernel_rfl) (fun u => ?_) ?_; rotate_left; (go_simp; try with_reducible rfl); simp only [Act.put, List.setIfInBounds_toArray, List.set_cons_zero, List.set_cons_succ]
          refine Lex3.run_free (v := ?_) (by rfl) (by kernel_rfl) (fun u => ?_) ?_; rotate_left; (go_simp; try with_reducible rfl); simp only [Act.put, List.setIfInBounds_toArray, List.set_cons_zero, List.set_cons_succ]
          refine Lex3.run_load (v := ?_) (by rfl) (by kernel_rfl) (fun u hu => ?_) ?_; rotate_left; (obtain ⟨hu0, hu1, hu2, hu3, hu4, hu5, hu6⟩ := hu; go_simp; try with_reducible rfl); simp only [Act.put, List.setIfInBounds_toArray, List.set_cons_zero, List.set_cons_succ]
          refine Lex3.run_free (v := ?_) (by rfl) (by kernel_rfl) (fun u => ?_) ?_; rotate_left; (go_simp; try with_reducible rfl); simp only [Act.put, List.setIfInBounds_toArray, List.set_cons_zero, List.set_cons_succ]
          refine Lex3.run_free (v := ?_) (by rfl) (by kernel_rfl) (fun u => ?_) ?_; rotate_left; (go_simp; try with_reducible rfl); simp only [Act.put, List.setIfInBounds_toArray, List.set_cons_zero, List.set_cons_succ]
          refine Lex3.run_load (v := ?_) (by rfl) (by kernel_rfl) (fun u hu => ?_) ?_; rotate_left; (obtain ⟨hu0, hu1, hu2, hu3, hu4, hu5, hu6⟩ := hu; go_simp; try with_reducible rfl); simp only [Act.put, List.setIfInBounds_toArray, List.set_cons_zero, List.set_cons_succ]
          refine Lex3.run_eff (by rfl) (by rfl) (fun n'' K' hK => ?_)
          go_simp
          refine (same12_any _ _ N N _ _ zs zs _ (s4.drewN _) (s5.drewN _) (by omega) (by omega)).mono ?_
          rintro e w5 ⟨rfl, k5, rfl⟩
          rw [eqLI]
          refine hK _ _ ⟨(h4).p0, (h4).p1, (h4).cellP hn he, (h4).cellQ hn he, ((h4).ent k _ he).1.2.c0, ((h4).ent k _ he).1.2.c1, by rw [← HN.out]; exact ((h4).ent k _ he).1.2.c2⟩ ?_
          have hC2 : ∀ N, (w4.drewN N).cell? ⟨B, 2, none⟩ = some (.bool true) := fun _ => h4.p2
          have hF2 : ∀ N, (w4.drewN N).frozen? ⟨B, 2, none⟩ = false := fun _ => h4.frozen 2
          clear hK K'
          try simp only [Act.put, List.setIfInBounds_toArray, List.set_cons_zero, List.set_cons_succ]
          refine Lex3.run_free (v := ?_) (by rfl) (by rfl) (fun u => ?_) ?_; rotate_left; (go_simp; try with_reducible rfl); simp only [Act.put, List.setIfInBounds_toArray, List.set_cons_zero, List.set_cons_succ]
          refine Lex3.run_free (v := ?_) (by rfl) (by rfl) (fun u => ?_) ?_; rotate_left; (go_simp; try with_reducible rfl); simp only [Act.put, List.setIfInBounds_toArray, List.set_cons_zero, List.set_cons_succ]
          refine Lex3.run_free (v := ?_) (by rfl) (by rfl) (fun u => ?_) ?_; rotate_left; (go_simp; try with_reducible rfl); simp only [Act.put, List.setIfInBounds_toArray, List.set_cons_zero, List.set_cons_succ]
          refine Lex3.run_eff (by rfl) (by rfl) (fun n9 K' hK => ?_)
          go_simp
          refine hK _ _ ⟨((h4.drewN _).mark).p0, ((h4.drewN _).mark).p1, ((h4.drewN _).mark).cellP hn he, ((h4.drewN _).mark).cellQ hn he, (((h4.drewN _).mark).ent k _ he).1.2.c0, (((h4.drewN _).mark).ent k _ he).1.2.c1, by rw [← HN.out]; exact (((h4.drewN _).mark).ent k _ he).1.2.c2⟩ ?_
          clear hK K'
          try simp only [Act.put, List.setIfInBounds_toArray, List.set_cons_zero, List.set_cons_succ]

          refine Lex3.run_nil (fun n3 => ?_)
          go_wp2_with fail
          go_roundw
          case rel => exact ⟨k + 1, by omega, by go_num, ⟨r, _, _, es, (h4.drewN _).mark.drewN _, hz, hn⟩, below_drewN ((h4.drewN _).markB (below_drewN (hb.trans (b14.mono h.le)) _)) _⟩
          case measure => simp [intOf]; omega
        · obtain ⟨Ap, cap, rfl⟩ := h.lenP hn
          have c0 := h.p0
          go_wp2_with fail
          go_ret
          exact ⟨rfl, hb⟩
end Go.Proofs.Ytlbocfinjlkebaa.Scr
