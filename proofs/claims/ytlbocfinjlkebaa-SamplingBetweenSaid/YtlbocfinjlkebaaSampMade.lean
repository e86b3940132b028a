/- A shape's plane, by the document and by the program. -/
import Derived.Test.YtlbocfinjlkebaaSampR
import Derived.Test.YtlbocfinjlkebaaLex3
namespace Go.Proofs.Ytlbocfinjlkebaa.Samp
open Go.RowKit

/-- has a shape a plane? -/
def shaped (wide : Int) (n : Nat) : Bool := decide (1 ≤ wide ∧ wide ≤ n ∧ n ≤ 67108864)
/-- there is none -/
def NoneS (w : World) (e : Ending) (w' : World) : Prop := e = .returned (.tuple #[.pointer none, .pointer none]) ∧ Below w.heap.size w w'
/-- both planes of a shape -/
def BothS (w : World) (A : Option Addr) (W H c : Nat) (zs : List Int) (e : Ending) (w' : World) : Prop :=
  ∃ r p g cp, e = .returned (.tuple #[.pointer (some ⟨r, 0, none⟩), .pointer (some ⟨p, 0, none⟩)]) ∧ RefAt w' r A W H c zs ∧ P8.PA w' p g W H cp (zs.map (.int .u8)) ∧
    w.heap.size ≤ r ∧ w.heap.size ≤ p ∧ w.heap.size ≤ g ∧ r ≠ p ∧ r ≠ g ∧ Below w.heap.size w w'

theorem Sl.cells {w : World} {b o n : Nat} {xs : List Value} (h : Sl w (some ⟨b, o, none⟩) n xs) (h0 : 0 < n) : ∀ j, j < n → w.cell? ⟨b, o + j, none⟩ = xs[j]? := by
  obtain ⟨b', o', e, hd⟩ := h.2 h0
  injection e with e
  injection e with e1 e2
  subst e1 e2
  exact hd
theorem Sl.take {w : World} {A : Option Addr} {n N : Nat} {xs : List Value} (h : Sl w A n xs) (hN : N ≤ n) : Sl w A N (xs.take N) := by
  refine ⟨by rw [List.length_take, h.1]; omega, fun h0 => ?_⟩
  obtain ⟨b, o, rfl, hd⟩ := h.2 (by omega)
  exact ⟨b, o, rfl, fun j hj => by rw [List.getElem?_take, if_pos hj]; exact hd j (by omega)⟩

set_option maxHeartbeats 2000000 in
theorem made_no (wide : Int) (A : Option Addr) (n c : Nat) (w : World) (hn : n ≤ maxLen) (hs : shaped wide n = false) :
    Calls Try.prog 18 #[.agg #[.int .i64 wide, .slice A n c]] w (NoneS w) := by
  unfold maxLen at hn
  have hs' : wide < 1 ∨ (n : Int) < wide ∨ 67108864 < n := by
    unfold shaped at hs
    simp at hs
    omega
  by_cases h1 : wide < 1
  · go_enter Try.func18, Try.ntmps18
    go_wp2_with fail
    go_ret2
    exact ⟨rfl, (Below.refl _ _).alloc (Nat.le_refl _) _⟩
  by_cases h2 : (n : Int) < wide
  · go_enter Try.func18, Try.ntmps18
    go_wp2_with fail
    go_ret2
    exact ⟨rfl, (Below.refl _ _).alloc (Nat.le_refl _) _⟩
  have h3 : 67108864 < n := by omega
  go_enter Try.func18, Try.ntmps18
  go_wp2_with fail
  go_ret2
  exact ⟨rfl, (Below.refl _ _).alloc (Nat.le_refl _) _⟩

set_option maxRecDepth 100000 in
set_option maxHeartbeats 4000000 in
theorem made_yes (W : Nat) (A : Option Addr) (n c : Nat) (zs : List Int) (w : World) (hnc : n ≤ c) (hc : c ≤ maxLen) (hsl : Sl w A n (zs.map (.int .u8))) (h1 : 1 ≤ W) (h2 : W ≤ n) (h3 : n ≤ 67108864) :
    Calls Try.prog 18 #[.agg #[.int .i64 W, .slice A n c]] w (BothS w A W (n / W) c (zs.take (W * (n / W)))) := by
  obtain ⟨i0, hi, hz0, hz1, hz2⟩ := info_parts P8.info
  obtain ⟨H, hH⟩ : ∃ H, n / W = H := ⟨_, rfl⟩
  have hq : IntKind.i64.wrap ((n : Int) / (W : Int)) = (H : Int) := by rw [← hH, ← Int.natCast_ediv]; exact IntWalk.i64_in _ (by have := Nat.div_le_self n W; omega)
  have hH1 : 1 ≤ H := by rw [← hH]; exact (Nat.le_div_iff_mul_le (by omega)).2 (by omega)
  have hHn : H ≤ n := by rw [← hH]; exact Nat.div_le_self n W
  have hWHn : W * H ≤ n := by rw [← hH]; exact Nat.mul_div_le n W
  obtain ⟨N, hN⟩ : ∃ N, W * H = N := ⟨_, rfl⟩
  have hNi : (W : Int) * (H : Int) = (N : Int) := by rw [← hN, Int.natCast_mul]
  have fit : fitsB W H = true := by
    rw [fitsB_iff]
    refine ⟨by omega, by omega, ?_⟩
    rw [hNi]; omega
  have hN1 : 1 ≤ N := by rw [← hN]; exact Nat.mul_le_mul h1 hH1
  rw [hN] at hWHn
  have hz : ¬ W = 0 := by omega
  rw [hH, hN]
  clear hH
  have HN := Lib.hid hN; clear hN
  have sl0 := Sl.take hsl hWHn
  rw [← List.map_take] at sl0
  obtain ⟨b0, o0, rfl, _⟩ := sl0.2 (by omega)
  have hone := ints_oneCell .u8 (zs.take N)
  generalize zs.take N = ys at *
  have hlt : ys.length = N := by simpa using sl0.1
  have sl1 := Sl.cells (sl0.alloc (.cells #[.int .i64 W, .slice (some ⟨b0, o0, none⟩) n c] 30)) (by omega)
  have a1 : ¬ (W : Int) < 1 := by omega
  have a2 : ¬ n < W := by omega
  have a3 : ¬ 67108864 < (n : Int) := by omega
  unfold maxLen at hc
  have hnN : N ≤ c := by omega
  go_enter Try.func18, Try.ntmps18
  have bx := Blk.new w 30 #[.int .i64 W, .slice (some ⟨b0, o0, none⟩) n c]
  go_wp2_with (at_builtin; refine wpList_append_lies _ rfl (.tmp 31) (.tmp 38) 28 rfl w.heap.size 5 i0 (.int .u8 0) 1 1 Try.underlying28 hi hz0 hz1 hz2 rfl (by decide) (.slice none 0 0) 0 [] rfl (World.ownsRow_nil _ _ _ _) ⟨b0, o0, none⟩ N c (ys.map (.int .u8)) rfl (by simp [hlt]) (news_of_sl (by simp [hlt]) sl1) hone (by omega) (by unfold maxLen; omega) (by omega) (by simp) _ rfl ?_; intro g1 cap1 w2 hown2 hgrow2 hat2 hlt2; have bx2 := bx.grown hgrow2 (by simp [Value.ownBlock]); have x0 : w2.cell? ⟨w.heap.size, 0, none⟩ = some (.int .i64 W) := (by rw [bx2.cell]; rfl); have x1 : w2.cell? ⟨w.heap.size, 1, none⟩ = some (.slice (some ⟨b0, o0, none⟩) n c) := (by rw [bx2.cell]; rfl))
  have hg2 : (w.alloc (.cells #[.int .i64 W, .slice (some ⟨b0, o0, none⟩) n c] 30)).grownBy w2 none := hgrow2
  obtain ⟨curg, hgb, hgs, hgt, hgn⟩ := row_of_owns hown2
  simp only [Nat.zero_add, List.nil_append] at hgt hgn
  have sl2 : Sl w2 (some ⟨g1, 0, none⟩) (W * H) (ys.map (.int .u8)) := by
    rw [HN.out]
    exact Sl.of_blk hgb hgt (by omega)
  have b2 : Below w.heap.size w w2 := ((Below.refl _ _).alloc (Nat.le_refl _) _).grown hg2 (by simp) (fun k hk => by cases hk)
  refine (show Calls Try.prog 50 #[.int .i64 W, .int .i64 H, .slice (some ⟨g1, 0, none⟩) N cap1] _ _ from HN.out ▸ P8.of_yes W H g1 0 cap1 _ _ fit sl2 hone).mono ?_
  rintro e w3 ⟨p, gp, cp, rfl, hp3, hpn, hgpn, hb3⟩
  have bx3 := bx2.kept hb3
  have y0 : w3.cell? ⟨w.heap.size, 0, none⟩ = some (.int .i64 W) := by rw [bx3.cell]; rfl
  have y1 : w3.cell? ⟨w.heap.size, 1, none⟩ = some (.slice (some ⟨b0, o0, none⟩) n c) := by rw [bx3.cell]; rfl
  have wN : IntKind.i64.wrap (N : Int) = (N : Int) := IntWalk.i64_in _ (by omega)
  go_upto_region 7 with fail
  refine Lex.wp_region_lex [] (by kernel_rfl) (by kernel_rfl) ?_
  repeat (first | (refine Lex.run_free (v := ?_) (by rfl) (by rfl) (fun u => ?_) ?_; rotate_left; (go_simp; try with_reducible rfl); simp only [Act.put, List.setIfInBounds_toArray, List.set_cons_zero, List.set_cons_succ]) | (refine Lex.run_load (v := ?_) (by rfl) (by rfl) (fun n => ?_) ?_; rotate_left; (go_simp; try with_reducible rfl); simp only [Act.put, List.setIfInBounds_toArray, List.set_cons_zero, List.set_cons_succ]))
  refine Lex.run_eff (by rfl) (by rfl) (fun n' K' hK => ?_)
  go_simp
  refine hK _ _ ?_
  clear hK K'
  try simp only [Act.put, List.setIfInBounds_toArray, List.set_cons_zero, List.set_cons_succ]
  repeat (first | (refine Lex.run_free (v := ?_) (by rfl) (by rfl) (fun u => ?_) ?_; rotate_left; (go_simp; try with_reducible rfl); simp only [Act.put, List.setIfInBounds_toArray, List.set_cons_zero, List.set_cons_succ]) | (refine Lex.run_load (v := ?_) (by rfl) (by rfl) (fun n => ?_) ?_; rotate_left; (go_simp; try with_reducible rfl); simp only [Act.put, List.setIfInBounds_toArray, List.set_cons_zero, List.set_cons_succ]))
  refine Lex.run_nil (fun n3 => ?_)
  go_wp2_with fail
  go_ret2
  have a3 : Below w.heap.size w w3 := below_then b2 hb3
  have b4 : Blk (w3.alloc (.cells #[.int .i64 W, .int .i64 H, .slice (some ⟨b0, o0, none⟩) N c] 127)) w3.heap.size 127 #[.int .i64 W, .int .i64 H, .slice (some ⟨b0, o0, none⟩) N c] := Blk.new w3 _ _
  have a4 : Below w.heap.size w (w3.alloc (.cells #[.int .i64 W, .int .i64 H, .slice (some ⟨b0, o0, none⟩) N c] 127)) := a3.alloc a3.size _
  have sl4 := sl0.below a4
  have a5 : Below w3.heap.size w3 (w3.alloc (.cells #[.int .i64 W, .int .i64 H, .slice (some ⟨b0, o0, none⟩) N c] 127)) := (Below.refl _ _).alloc (Nat.le_refl _) _
  have hp4 := hp3.below a5
  have l1 := hp3.blt
  have l2 := hp3.glt
  have l3 := a3.size
  have l4 := b2.size
  refine ⟨w3.heap.size, p, gp, cp, rfl, ⟨?_, ?_⟩, hp4.keep rfl rfl, l3, by omega, by omega, by omega, by omega, ⟨a4.os, a4.tape, a4.output, a4.size, a4.block⟩⟩
  · rw [HN.out]
    exact b4
  · rw [HN.out]
    exact sl4
end Go.Proofs.Ytlbocfinjlkebaa.Samp
