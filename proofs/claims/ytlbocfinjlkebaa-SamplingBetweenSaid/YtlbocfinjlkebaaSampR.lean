/- Up: the document's walk, and why there is none. -/
import Derived.Test.YtlbocfinjlkebaaSampU
import Derived.Test.YtlbocfinjlkebaaSampM
import Derived.Test.YtlbocfinjlkebaaLex2
namespace Go.Proofs.Ytlbocfinjlkebaa.Samp
open Go.RowKit

theorem up_no (b g W H c : Nat) (xs : List Value) (fx fy wide high : Int) (w : World) (hp : P8.PA w b g W H c xs) (he : upE fx fy wide high W H ≠ 0) :
    Calls Try.prog 37 #[.pointer (some ⟨b, 0, none⟩), .int .i64 fx, .int .i64 fy, .int .i64 wide, .int .i64 high] w fun e w' => e = .returned (.tuple #[.pointer none, .int .i64 (upE fx fy wide high W H)]) ∧ ∃ k, w' = w.drewN k := by
  obtain ⟨E, hE⟩ : ∃ E, upE fx fy wide high W H = E := ⟨_, rfl⟩
  rw [hE] at he ⊢
  have HE := Lib.hid hE; clear hE
  go_enter Try.func37, Try.ntmps37
  go_wp2_with fail
  refine (larger_any b g W H c _ fx fy wide high w hp).mono ?_
  rintro e w' ⟨rfl, n0, rfl⟩
  simp only [HE.out]
  go_wp2_with fail
  go_ret2
  exact ⟨rfl, n0, rfl⟩
theorem up_nil (fx fy wide high : Int) (w : World) :
    Calls Try.prog 37 #[.pointer none, .int .i64 fx, .int .i64 fy, .int .i64 wide, .int .i64 high] w fun e w' => e = .returned (.tuple #[.pointer none, .int .i64 2]) ∧ w = w' := by
  go_enter Try.func37, Try.ntmps37
  go_wp2_with fail
  refine (larger_nil fx fy wide high w).mono ?_
  rintro e w' ⟨rfl, rfl⟩
  go_wp2_with fail
  go_ret2
  exact ⟨rfl, rfl⟩
theorem rup_no (b : Nat) (A : Option Addr) (W H c : Nat) (zs : List Int) (fx fy wide high : Int) (w : World) (hp : RefAt w b A W H c zs) (hW : W ≤ 67108864) (hH : H ≤ 67108864) (he : upE fx fy wide high W H ≠ 0) :
    Calls Try.prog 36 #[.pointer (some ⟨b, 0, none⟩), .int .i64 fx, .int .i64 fy, .int .i64 wide, .int .i64 high] w fun e w' => e = .returned (.tuple #[.pointer none, .int .i64 (upE fx fy wide high W H)]) ∧ ∃ k, w' = w.drewN k := by
  obtain ⟨E, hE⟩ : ∃ E, upE fx fy wide high W H = E := ⟨_, rfl⟩
  rw [hE] at he ⊢
  have HE := Lib.hid hE; clear hE
  go_enter Try.func36, Try.ntmps36
  go_wp2_with fail
  refine (rlarger_any b A W H c _ fx fy wide high w hp hW hH).mono ?_
  rintro e w' ⟨rfl, n0, rfl⟩
  simp only [HE.out]
  go_wp2_with fail
  go_ret2
  exact ⟨rfl, n0, rfl⟩
theorem rup_nil (fx fy wide high : Int) (w : World) :
    Calls Try.prog 36 #[.pointer none, .int .i64 fx, .int .i64 fy, .int .i64 wide, .int .i64 high] w fun e w' => e = .returned (.tuple #[.pointer none, .int .i64 2]) ∧ w = w' := by
  go_enter Try.func36, Try.ntmps36
  go_wp2_with fail
  refine (rlarger_nil fx fy wide high w).mono ?_
  rintro e w' ⟨rfl, rfl⟩
  go_wp2_with fail
  go_ret2
  exact ⟨rfl, rfl⟩

/-- the document's plane while its samples are appended -/
def UpI (w wr : World) (W H p n : Nat) (ys : List Value) : Prop :=
  ∃ s, Blk wr p 127 #[.int .i64 W, .int .i64 H, s] ∧ wr.ownsRow w.heap.size 5 1 s n ys ∧ Below w.heap.size w wr ∧ s.ownBlock ≠ some p ∧ w.heap.size ≤ p
theorem UpI.step {w wr w1 : World} {W H p n gg cap : Nat} {s : Value} {ys zs : List Value} {o : Obj} (q1 : Blk wr p 127 #[.int .i64 W, .int .i64 H, s]) (q2 : wr.ownsRow w.heap.size 5 1 s n ys) (q3 : Below w.heap.size w wr)
    (q4 : s.ownBlock ≠ some p) (hw : w.heap.size ≤ p) (hown : w1.ownsRow w.heap.size 5 1 (.slice (some ⟨gg, 0, none⟩) (n + 1) cap) (n + 1) zs) (hgrow : (wr.alloc o).grownBy w1 s.ownBlock)
    (hat : s.ownBlock = some gg ∨ gg = wr.heap.size + 1) (a b : Nat) :
    UpI w (((w1.drewN a).setCell ⟨p, 2, none⟩ (.slice (some ⟨gg, 0, none⟩) (n + 1) cap)).drewN b) W H p (n + 1) zs := by
  have hne : p ≠ gg := by
    rintro rfl
    rcases hat with h | h
    · exact q4 h
    · have := q1.lt; omega
  have b1 := (q1.alloc o).grown hgrow (fun h => q4 h.symm)
  have a1 : Below w.heap.size w (wr.alloc o) := q3.alloc q3.size _
  have a2 := a1.grown hgrow a1.size (fun j hj => (q2.lt j hj).1)
  refine ⟨.slice (some ⟨gg, 0, none⟩) (n + 1) cap, ?_, ?_, ?_, ?_, hw⟩
  · exact (Blk.set (b1.drewN a) 2 _).drewN b
  · obtain ⟨cur, r1, r2, r3, r4, r5, r6⟩ := row_of_owns hown
    rw [← r3]
    have r1' : Blk (((w1.drewN a).setCell ⟨p, 2, none⟩ (.slice (some ⟨gg, 0, none⟩) (n + 1) cap)).drewN b) gg 5 cur := ((r1.drewN a).far (fun h => hne h.symm) _).drewN b
    exact owns_of_row w.heap.size r1' r2 r4 r5 r6
  · exact below_drewN ((below_drewN a2 a).setCell hw _) b
  · simp [Value.ownBlock]; exact fun h => hne h.symm

/-- what the document's Up makes -/
def MadeR (w0 : World) (W H : Nat) (zs : List Int) (e : Ending) (w : World) : Prop :=
  ∃ p g c, e = .returned (.tuple #[.pointer (some ⟨p, 0, none⟩), .int .i64 0]) ∧ RefAt w p (some ⟨g, 0, none⟩) W H c zs ∧ w0.heap.size ≤ p ∧ w0.heap.size ≤ g ∧ Below w0.heap.size w0 w

set_option maxRecDepth 100000 in
set_option maxHeartbeats 4000000 in
theorem rup_yes (b : Nat) (A : Option Addr) (W H c : Nat) (zs : List Int) (fx fy wide high : Nat) (w : World) (hp : RefAt w b A W H c zs) (hW : W ≤ 67108864) (hH : H ≤ 67108864) (hWH : W * H ≤ 67108864) (he : upE fx fy wide high W H = 0) :
    Calls Try.prog 36 #[.pointer (some ⟨b, 0, none⟩), .int .i64 fx, .int .i64 fy, .int .i64 wide, .int .i64 high] w (MadeR w wide high (gridL wide (upV zs W fx fy) (high * wide))) := by
  obtain ⟨i0, hi, hz0, hz1, hz2⟩ := info_parts P8.info
  have hl := hp.len
  have hE : 1 ≤ fx ∧ fx ≤ 4 ∧ 1 ≤ fy ∧ fy ≤ 4 ∧ 1 ≤ wide ∧ 1 ≤ high ∧ wide ≤ fx * W ∧ high ≤ fy * H ∧ wide * high ≤ 67108864 := by
    unfold upE at he
    split at he
    · omega
    · split at he
      · omega
      · rename_i h1 h2
        have h3 : ¬ (fx : Int) * (W : Int) < wide := fun h => h2 (.inr (.inr (.inl h)))
        have h4 : ¬ (fy : Int) * (H : Int) < high := fun h => h2 (.inr (.inr (.inr (.inl h))))
        have h5 : ¬ 67108864 < (wide : Int) * (high : Int) := fun h => h2 (.inr (.inr (.inr (.inr h))))
        rw [← Int.natCast_mul] at h3 h4 h5
        refine ⟨by omega, by omega, by omega, by omega, by omega, by omega, by omega, by omega, by omega⟩
  obtain ⟨e1, e2, e3, e4, e5, e6, e7, e8, e9⟩ := hE
  obtain ⟨N, hN⟩ : ∃ N, wide * high = N := ⟨_, rfl⟩
  have hN1 : 1 ≤ N := by rw [← hN]; exact Nat.mul_le_mul e5 e6
  rw [hN] at e9
  have bw : wide ≤ 67108864 := by have := Nat.le_mul_of_pos_right wide (show 0 < high by omega); omega
  have bh : high ≤ 67108864 := by have := Nat.le_mul_of_pos_left high (show 0 < wide by omega); omega
  have HN := Lib.hid hN; clear hN
  have HE := Lib.hid he; clear he
  go_enter Try.func36, Try.ntmps36
  go_wp2_with fail
  refine (rlarger_any b A W H c _ fx fy wide high w hp hW hH).mono ?_
  rintro e w' ⟨rfl, n0, rfl⟩
  simp only [HE.out]
  go_wp2_with fail
  have w0 : Below w.heap.size w (w.drewN n0) := below_drewN (Below.refl _ _) n0
  have hb0 : Blk ((w.drewN n0).alloc (.cells #[.int .i64 wide, .int .i64 high, .slice none 0 0] 127)) w.heap.size 127 #[.int .i64 wide, .int .i64 high, .slice none 0 0] := Blk.new (w.drewN n0) _ _
  go_loopw [14] (fun i wr => ∃ y n : Nat, y ≤ high ∧ y * wide = n ∧ i = .int .i64 y ∧ UpI w wr wide high w.heap.size n ((gridL wide (upV zs W fx fy) n).map (.int .u8))) (fun i _ => high - (intOf i).toNat)
  case atStart =>
    exact ⟨0, 0, Nat.zero_le _, Nat.zero_mul _, rfl, .slice none 0 0, hb0, World.ownsRow_nil _ _ _ _, w0.alloc (by simp) _, by simp [Value.ownBlock], Nat.le_refl _⟩
  case round =>
    obtain ⟨y, n, hy, hn, rfl, hI⟩ := hrel
    have HNN := Lib.hid hn; clear hn
    by_cases hlt : y < high
    · go_wp2_with fail
      go_loopw [15] (fun i wr => ∃ x m : Nat, x ≤ wide ∧ n + x = m ∧ i = .int .i64 x ∧ UpI w wr wide high w.heap.size m ((gridL wide (upV zs W fx fy) m).map (.int .u8))) (fun i _ => wide - (intOf i).toNat)
      case atStart => exact ⟨0, n, Nat.zero_le _, rfl, rfl, hI⟩
      case round =>
        obtain ⟨x, m, hx, hm, rfl, hI⟩ := hrel
        by_cases hxl : x < wide
        · have hmN : m < N := by
            have h1 : (y + 1) * wide ≤ high * wide := Nat.mul_le_mul_right wide hlt
            rw [Nat.add_mul, Nat.one_mul, HNN.out, Nat.mul_comm high wide, HN.out] at h1
            omega
          have q1 : x / fx < W := Nat.div_lt_of_lt_mul (by omega)
          have q2 : y / fy < H := Nat.div_lt_of_lt_mul (by omega)
          have z1 : ¬ fx = 0 := by omega
          have z2 : ¬ fy = 0 := by omega
          have hvv : upV zs W fx fy x y = zs.getD (y / fy * W + x / fx) 0 := rfl
          obtain ⟨u, hu⟩ : ∃ u, x / fx = u := ⟨_, rfl⟩
          obtain ⟨v, hv⟩ : ∃ v, y / fy = v := ⟨_, rfl⟩
          have y1 : IntKind.i64.wrap ((x : Int) / (fx : Int)) = (u : Int) := by rw [← hu, ← Int.natCast_ediv]; exact IntWalk.i64_in _ (by have := Nat.div_le_self x fx; omega)
          have y2 : IntKind.i64.wrap ((y : Int) / (fy : Int)) = (v : Int) := by rw [← hv, ← Int.natCast_ediv]; exact IntWalk.i64_in _ (by have := Nat.div_le_self y fy; omega)
          rw [hu, hv] at hvv
          rw [hu] at q1
          rw [hv] at q2
          clear hu hv
          obtain ⟨mv, hmv⟩ : ∃ mv, v * W = mv := ⟨_, rfl⟩
          have hmi : (v : Int) * (W : Int) = (mv : Int) := by rw [← hmv, Int.natCast_mul]
          have hidx : mv + u < W * H := by
            have h1 : (v + 1) * W ≤ H * W := Nat.mul_le_mul_right W q2
            rw [Nat.add_mul, Nat.one_mul, hmv, Nat.mul_comm H W] at h1
            omega
          rw [hmv] at hvv
          clear hmv
          obtain ⟨sv, p1, p2, p3, p4, p5⟩ := hI
          have hpr := hp.below p3
          have c0 := hpr.c0
          have c2 := hpr.c2
          obtain ⟨b0, o0, rfl, hcs⟩ := hpr.sl.2 (by omega)
          have d3 := hcs _ hidx
          have hgd : zs.getD (mv + u) 0 = upV zs W fx fy x y := hvv.symm
          rw [List.getElem?_map, List.getElem?_eq_getElem (by rw [hl]; exact hidx)] at d3
          rw [List.getD_eq_getElem?_getD, List.getElem?_eq_getElem (by rw [hl]; exact hidx)] at hgd
          simp only [Option.map_some, Option.getD_some] at d3 hgd
          rw [hgd] at d3
          have d2 : wr.cell? ⟨w.heap.size, 2, none⟩ = some sv := by rw [p1.cell]; rfl
          have f2 : wr.frozen? ⟨w.heap.size, 2, none⟩ = false := p1.frozen 2
          have y3 : IntKind.i64.wrap ((mv : Int) + (u : Int)) = (mv : Int) + (u : Int) := IntWalk.i64_in _ (by omega)
          have y4 : ((mv : Int) + (u : Int)).toNat = mv + u := by omega
          clear hgd hvv
          obtain ⟨val, hval⟩ : ∃ val, upV zs W fx fy x y = val := ⟨_, rfl⟩
          rw [hval] at d3
          have HVAL := Lib.hid (gridL_next (upV zs W fx fy) hxl (show y * wide + x = m by rw [HNN.out, hm]))
          obtain ⟨N2, hN2⟩ : ∃ N2, W * H = N2 := ⟨_, rfl⟩
          rw [hN2] at hidx c2 hWH
          have HN2 := Lib.hid hN2; clear hN2
          have y5 : IntKind.i64.wrap (mv : Int) = (mv : Int) := IntWalk.i64_in _ (by omega)
          have y6 : 0 ≤ (mv : Int) + (u : Int) := by omega
          have y7 : (mv : Int) + (u : Int) < (N2 : Int) := by omega
          go_upto_region 11 with fail
          refine Lex2.wp_region_lex [] (by kernel_rfl) (by kernel_rfl) ?_
          repeat (first | (refine Lex2.run_free (v := ?_) (by rfl) (by rfl) (fun u => ?_) ?_; rotate_left; (go_simp; try with_reducible rfl); simp only [Act.put, List.setIfInBounds_toArray, List.set_cons_zero, List.set_cons_succ]) | (refine Lex2.run_load (v := ?_) (by rfl) (by rfl) (fun u hu => ?_) ?_; rotate_left; (have hu0 := hu _ _ c0; have hu1 := hu _ _ c2; have hu2 := hu _ _ d2; have hu3 := hu _ _ d3; go_simp; try with_reducible rfl); simp only [Act.put, List.setIfInBounds_toArray, List.set_cons_zero, List.set_cons_succ]))
          refine Lex2.run_eff (by decide) (by rfl) (fun n' K' hK => ?_)
          go_simp
          refine hK _ _ ?_
          clear hK K'
          refine Lex2.run_eff (by decide) (by rfl) (fun n'' K' hK => ?_)
          refine wp_append_lies _ (.tmp 43) (.tmp 62) 28 rfl w.heap.size 5 i0 (.int .u8 0) 1 1 Try.underlying28 hi hz0 hz1 hz2 rfl (by decide) sv m _ (by rfl) (show World.ownsRow _ _ _ _ _ _ _ from p2.alloc (.cells #[.int .u8 val] 5)) ⟨wr.heap.size, 0, none⟩ 1 1 [.int .u8 val] (by rfl) rfl (show ∀ i u, _ → World.cell? _ _ = _ from cell_one_new wr _ _) (by intro u hu; simp at hu; subst hu; rfl) (by decide) (by unfold maxLen; omega) (by omega) (show w.heap.size ≤ (wr.alloc (.cells #[.int .u8 val] 5)).heap.size by simp; have := p3.size; omega) (wr.heap.size + 1) (show (wr.alloc (.cells #[.int .u8 val] 5)).heap.size = _ by simp) ?_
          intro gg cap w1 hown1 hgrow hat hlt1
          refine hK _ _ ?_
          clear hK K'
          have hgrow' : (wr.alloc (.cells #[.int .u8 val] 5)).grownBy w1 sv.ownBlock := ⟨hgrow.os, hgrow.tape, hgrow.output, hgrow.size, hgrow.block⟩
          have b1 := (p1.alloc (.cells #[.int .u8 val] 5)).grown hgrow' (fun h => p4 h.symm)
          have r2 : w1.cell? ⟨w.heap.size, 2, none⟩ = some sv := by rw [b1.cell]; rfl
          have r3 : w1.frozen? ⟨w.heap.size, 2, none⟩ = false := b1.frozen 2
          simp only [Act.put, List.setIfInBounds_toArray, List.set_cons_zero, List.set_cons_succ]
          repeat (first | (refine Lex2.run_free (v := ?_) (by rfl) (by rfl) (fun u => ?_) ?_; rotate_left; (go_simp; try with_reducible rfl); simp only [Act.put, List.setIfInBounds_toArray, List.set_cons_zero, List.set_cons_succ]))
          refine Lex2.run_eff (by decide) (by rfl) (fun n3 K' hK => ?_)
          go_simp
          refine hK _ _ ?_
          clear hK K'
          try simp only [Act.put, List.setIfInBounds_toArray, List.set_cons_zero, List.set_cons_succ]
          refine Lex2.run_nil (fun n4 => ?_)
          have hst : UpI w (((w1.drewN n3).setCell ⟨w.heap.size, 2, none⟩ (.slice (some ⟨gg, 0, none⟩) (m + 1) cap)).drewN n4) wide high w.heap.size (m + 1) ((gridL wide (upV zs W fx fy) (m + 1)).map (.int .u8)) := by
            refine UpI.step p1 p2 p3 p4 (Nat.le_refl _) ?_ hgrow' hat _ _
            rw [HVAL.out, List.map_append, hval]
            exact hown1
          go_wp2_with fail
          go_roundw
          case rel => exact ⟨x + 1, m + 1, by omega, by omega, by go_num, hst⟩
          case measure => simp [intOf]; omega
        · go_wp2_with fail
          go_roundw
          case rel => exact ⟨y + 1, m, by omega, by rw [Nat.add_mul, Nat.one_mul, HNN.out]; omega, by go_num, hI⟩
          case measure => simp [intOf]; omega
    · have hyh : y = high := by omega
      subst hyh
      have hnN : n = N := by have := HN.out; have := HNN.out; rw [Nat.mul_comm] at this; omega
      subst hnN
      obtain ⟨sv, p1, p2, p3, p4, p5⟩ := hI
      obtain ⟨g1, cap, rfl, hg0, hg1⟩ := p2.form hN1
      obtain ⟨curg, hgb, hgs, hgt, hgn⟩ := row_of_owns p2
      go_wp2_with fail
      go_ret2
      refine ⟨w.heap.size, g1, cap, rfl, ⟨?_, ?_⟩, Nat.le_refl _, hg0, p3⟩
      · rw [HN.out]
        exact p1
      · rw [HN.out, HNN.out]
        exact Sl.of_blk hgb hgt (by omega)
end Go.Proofs.Ytlbocfinjlkebaa.Samp
