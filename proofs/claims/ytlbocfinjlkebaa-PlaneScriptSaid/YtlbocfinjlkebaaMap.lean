/- Map: each sample by a function, as a plane of its own. -/
import Derived.Test.YtlbocfinjlkebaaBytesL
import Derived.Test.YtlbocfinjlkebaaLex3
namespace Go.Proofs.Ytlbocfinjlkebaa.Byt
open Go.RowKit

/-- a plane that Map makes -/
def MapPPI (w0 : World) (W H : Nat) (zs : List Int) (e : Ending) (w : World) : Prop :=
  ∃ p g c, e = .returned (.pointer (some ⟨p, 0, none⟩)) ∧ PI.PA w p g W H c (zs.map (.int .i64)) ∧ w0.heap.size ≤ p ∧ w0.heap.size ≤ g ∧ Below w0.heap.size w0 w
def MapPP8 (w0 : World) (W H : Nat) (zs : List Int) (e : Ending) (w : World) : Prop :=
  ∃ p g c, e = .returned (.pointer (some ⟨p, 0, none⟩)) ∧ P8.PA w p g W H c (zs.map (.int .u8)) ∧ w0.heap.size ≤ p ∧ w0.heap.size ≤ g ∧ Below w0.heap.size w0 w
/-- k samples are mapped, the others noughts -/
def filledZ (zs : List Int) (F : Int → Int) (N k : Nat) : List Int := (zs.take k).map F ++ List.replicate (N - k) 0
theorem filledZ_next {zs : List Int} {F : Int → Int} {N k : Nat} (hl : zs.length = N) (h : k < N) : (filledZ zs F N k).set k (F (zs.getD k 0)) = filledZ zs F N (k + 1) := by
  unfold filledZ
  have e1 : ((zs.take k).map F).length = k := by rw [List.length_map, List.length_take]; omega
  rw [List.set_append_right _ _ (by omega), e1, Nat.sub_self, show N - k = (N - (k + 1)) + 1 by omega, List.replicate_succ, List.set_cons_zero, List.take_succ_eq_append_getElem (by omega), List.map_append, List.append_assoc, List.getD_eq_getElem?_getD, List.getElem?_eq_getElem (by omega)]
  rfl
theorem filledZ_all {zs : List Int} {F : Int → Int} {N : Nat} (hl : zs.length = N) : filledZ zs F N N = zs.map F := by
  unfold filledZ
  rw [List.take_of_length_le (by omega), Nat.sub_self]
  simp
theorem filledZ_length {zs : List Int} {F : Int → Int} {N k : Nat} (hl : zs.length = N) (h : k ≤ N) : (filledZ zs F N k).length = N := by
  unfold filledZ
  simp
  omega
theorem made_filled {k : IntKind} (zs : List Int) (F : Int → Int) (N : Nat) : madeCells #[Value.int k 0] N = ((filledZ zs F N 0).map (.int k)).toArray := by
  unfold filledZ
  apply Array.ext_getElem?
  intro i
  simp [madeCells, Nat.mod_one]
  by_cases h : i < N <;> simp [h]
theorem getD_byte {zs : List Int} (h : ∀ z ∈ zs, 0 ≤ z ∧ z ≤ 255) {N k : Nat} (hl : zs.length = N) (hk : k < N) : 0 ≤ zs.getD k 0 ∧ zs.getD k 0 ≤ 255 := by
  rw [List.getD_eq_getElem?_getD, List.getElem?_eq_getElem (by omega)]
  exact h _ (List.getElem_mem _)

set_option maxHeartbeats 1000000 in
theorem map_55_c (z : Int) (w : World) (h1 : 0 ≤ z) (h2 : z ≤ 255) : Calls Try.prog 55 #[.int .u8 z] w fun e w' => e = .returned (.int .i64 z) ∧ w = w' := by
  have y1 : IntKind.i64.wrap z = z := IntWalk.i64_in _ (by omega)
  have y2 : IntKind.u8.wrap z = z := by apply IntWalk.u8_in <;> omega
  have y3 : z % 256 = z := by omega
  go_enter Try.func55, Try.ntmps55
  go_wp2_with fail
  go_ret
  exact ⟨rfl, rfl⟩
theorem map_55_f (u : World) : (binOp .eql 91 (.func (.func 55) #[] #[]) .nilFunc).run Try.prog u = .ok (.bool false) u := by
  have hu : Try.prog.underlying 91 = some (.func #[5] #[3] false) := by kernel_rfl
  have h1 : (Op.equal 91 (.func (.func 55) #[] #[]) .nilFunc).run Try.prog u = .ok false u := by
    unfold Op.equal Op.maxDepth
    rw [show (10000 : Nat) = 9999 + 1 from rfl]
    unfold Op.equalIn
    rw [Sem.run_bind, run_underlying hu]
    rfl
  have h2 : binOp .eql 91 (.func (.func 55) #[] #[]) .nilFunc = (do let r ← Op.equal 91 (.func (.func 55) #[] #[]) .nilFunc; pure (.bool r)) := rfl
  rw [h2, Sem.run_bind, h1]
  rfl
set_option maxRecDepth 100000 in
set_option maxHeartbeats 4000000 in
theorem map_55 (b g W H c : Nat) (zs : List Int) (w : World) (hp : P8.PA w b g W H c (zs.map (.int .u8))) (hz : ∀ z ∈ zs, 0 ≤ z ∧ z ≤ 255) :
    Calls Try.prog 54 #[.pointer (some ⟨b, 0, none⟩), .func (.func 55) #[] #[]] w (MapPPI w W H (zs.map id)) := by
  obtain ⟨i0, hi, hz0, hz1, hz2⟩ := info_parts PI.info
  have c0 := hp.c0
  have c1 := hp.c1
  have c2 := hp.c2
  have hsz := hp.size
  have hW := hp.wide
  have hH := hp.high
  have hs := hp.side
  have hl : zs.length = W * H := by simpa using hp.len
  have hcell : ∀ j, j < W * H → w.cell? ⟨g, j, none⟩ = some (.int .u8 (zs.getD j 0)) := fun j hj => by
    rw [hp.cellAt hj, List.getD_eq_getElem?_getD, List.getElem?_map, List.getElem?_eq_getElem (by omega), List.getD_eq_getElem?_getD, List.getElem?_eq_getElem (by omega)]
    rfl
  obtain ⟨N, hN⟩ : ∃ N, W * H = N := ⟨_, rfl⟩
  have hN1 : 1 ≤ N := by rw [← hN]; exact Nat.mul_le_mul hW hH
  rw [hN] at c2 hsz hl hcell
  have HN := Lib.hid hN; clear hN
  have HCELL := Lib.hid hcell; clear hcell
  have hmk : ∀ u : World, (Instr.makeSlice 50 (.int .i64 (N : Int)) (.int .i64 (N : Int))).run Try.prog u = .ok (.slice (some ⟨u.heap.size, 0, none⟩) N N) (u.alloc (.cells (madeCells (Value.cells (.int .i64 0)) N) 3)) := fun u => run_make_n 50 3 i0 (.int .i64 0) Try.underlying50 hi hz0 hz1 N (by rw [hz2]; omega) (by omega) u
  have hnf := map_55_f
  go_enter Try.func54, Try.ntmps54
  go_upto_region 3 with fail
  refine Lex3.wp_region_lex [] (fun u' => u'.cell? ⟨b, 0, none⟩ = some (.int .i64 W) ∧ u'.cell? ⟨b, 1, none⟩ = some (.int .i64 H) ∧ u'.cell? ⟨b, 2, none⟩ = some (.slice (some ⟨g, 0, none⟩) N c)) (fun u n h => h) ⟨c0, c1, c2⟩ (by kernel_rfl) (by kernel_rfl) ?_
  refine Lex3.run_free (v := ?_) (by rfl) (by rfl) (fun u => ?_) ?_; rotate_left; (go_simp; try with_reducible rfl); simp only [Act.put, List.setIfInBounds_toArray, List.set_cons_zero, List.set_cons_succ]
  refine Lex3.run_free (v := ?_) (by rfl) (by rfl) (fun u => ?_) ?_; rotate_left; (go_simp; try with_reducible rfl); simp only [Act.put, List.setIfInBounds_toArray, List.set_cons_zero, List.set_cons_succ]
  refine Lex3.run_free (v := ?_) (by rfl) (by rfl) (fun u => ?_) ?_; rotate_left; (go_simp; try with_reducible rfl); simp only [Act.put, List.setIfInBounds_toArray, List.set_cons_zero, List.set_cons_succ]
  refine Lex3.run_load (v := ?_) (by rfl) (by rfl) (fun u hu => ?_) ?_; rotate_left; (obtain ⟨hu0, hu1, hu2⟩ := hu; go_simp; try with_reducible rfl); simp only [Act.put, List.setIfInBounds_toArray, List.set_cons_zero, List.set_cons_succ]
  refine Lex3.run_free (v := ?_) (by rfl) (by rfl) (fun u => ?_) ?_; rotate_left; (go_simp; try with_reducible rfl); simp only [Act.put, List.setIfInBounds_toArray, List.set_cons_zero, List.set_cons_succ]
  refine Lex3.run_free (v := ?_) (by rfl) (by rfl) (fun u => ?_) ?_; rotate_left; (go_simp; try with_reducible rfl); simp only [Act.put, List.setIfInBounds_toArray, List.set_cons_zero, List.set_cons_succ]
  refine Lex3.run_free (v := ?_) (by rfl) (by rfl) (fun u => ?_) ?_; rotate_left; (go_simp; try with_reducible rfl); simp only [Act.put, List.setIfInBounds_toArray, List.set_cons_zero, List.set_cons_succ]
  refine Lex3.run_load (v := ?_) (by rfl) (by rfl) (fun u hu => ?_) ?_; rotate_left; (obtain ⟨hu0, hu1, hu2⟩ := hu; go_simp; try with_reducible rfl); simp only [Act.put, List.setIfInBounds_toArray, List.set_cons_zero, List.set_cons_succ]
  refine Lex3.run_free (v := ?_) (by rfl) (by rfl) (fun u => ?_) ?_; rotate_left; (go_simp; try with_reducible rfl); simp only [Act.put, List.setIfInBounds_toArray, List.set_cons_zero, List.set_cons_succ]
  refine Lex3.run_free (v := ?_) (by rfl) (by rfl) (fun u => ?_) ?_; rotate_left; (go_simp; try with_reducible rfl); simp only [Act.put, List.setIfInBounds_toArray, List.set_cons_zero, List.set_cons_succ]
  refine Lex3.run_free (v := ?_) (by rfl) (by rfl) (fun u => ?_) ?_; rotate_left; (go_simp; try with_reducible rfl); simp only [Act.put, List.setIfInBounds_toArray, List.set_cons_zero, List.set_cons_succ]
  refine Lex3.run_load (v := ?_) (by rfl) (by rfl) (fun u hu => ?_) ?_; rotate_left; (obtain ⟨hu0, hu1, hu2⟩ := hu; go_simp; try with_reducible rfl); simp only [Act.put, List.setIfInBounds_toArray, List.set_cons_zero, List.set_cons_succ]
  refine Lex3.run_free (v := ?_) (by rfl) (by rfl) (fun u => ?_) ?_; rotate_left; (go_simp; try with_reducible rfl); simp only [Act.put, List.setIfInBounds_toArray, List.set_cons_zero, List.set_cons_succ]
  refine Lex3.run_eff (by rfl) (by rfl) (fun n' K' hK => ?_)
  go_simp
  have a1 : Below w.heap.size w ((w.drewN (1 + n')).alloc (.cells (madeCells #[(.int .i64 0)] N) 3)) := (below_drewN (Below.refl _ _) _).alloc (by simp) _
  refine hK _ _ ⟨below_cell a1 c0, below_cell a1 c1, below_cell a1 c2⟩ ?_
  clear hK K'
  try simp only [Act.put, List.setIfInBounds_toArray, List.set_cons_zero, List.set_cons_succ]
  refine Lex3.run_free (v := ?_) (by rfl) (by rfl) (fun u => ?_) ?_; rotate_left; (go_simp; try with_reducible rfl); simp only [Act.put, List.setIfInBounds_toArray, List.set_cons_zero, List.set_cons_succ]
  refine Lex3.run_eff (by rfl) (by rfl) (fun n'' K' hK => ?_)
  go_simp
  have a2 : Below w.heap.size w (((w.drewN (1 + n')).alloc (.cells (madeCells #[(.int .i64 0)] N) 3)).drewN n'') := below_drewN a1 n''
  have a3 : Below w.heap.size w ((((w.drewN (1 + n')).alloc (.cells (madeCells #[(.int .i64 0)] N) 3)).drewN n'').alloc (.cells #[.int .i64 W, .int .i64 H, .slice (some ⟨w.heap.size, 0, none⟩) N N] 135)) := a2.alloc a2.size _
  refine hK _ _ ⟨below_cell a3 c0, below_cell a3 c1, below_cell a3 c2⟩ ?_
  clear hK K'
  try simp only [Act.put, List.setIfInBounds_toArray, List.set_cons_zero, List.set_cons_succ]
  refine Lex3.run_free (v := ?_) (by rfl) (by rfl) (fun u => ?_) ?_; rotate_left; (go_simp; try with_reducible rfl); simp only [Act.put, List.setIfInBounds_toArray, List.set_cons_zero, List.set_cons_succ]
  refine Lex3.run_nil (fun n3 => ?_)
  have a4 := below_drewN a3 n3
  have d2 := below_cell a4 c2
  have q1 : Blk ((((w.drewN (1 + n')).alloc (.cells (madeCells #[(.int .i64 0)] N) 3)).drewN n'').alloc (.cells #[.int .i64 W, .int .i64 H, .slice (some ⟨w.heap.size, 0, none⟩) N N] 135)) (w.heap.size + 1) 135 #[.int .i64 W, .int .i64 H, .slice (some ⟨w.heap.size, 0, none⟩) N N] := heap_alloc2_new (w.drewN (1 + n')) _ _
  have q2 : Blk ((((w.drewN (1 + n')).alloc (.cells (madeCells #[(.int .i64 0)] N) 3)).drewN n'').alloc (.cells #[.int .i64 W, .int .i64 H, .slice (some ⟨w.heap.size, 0, none⟩) N N] 135)) w.heap.size 3 (madeCells #[(.int .i64 0)] N) := heap_alloc2_old (w.drewN (1 + n')) _ _
  have hmade : madeCells #[(.int .i64 0)] N = ((filledZ zs id N 0).map (.int .i64)).toArray := made_filled zs id N
  rw [hmade] at q1 q2 a4 d2 ⊢
  have q3 := q1.drewN n3
  have q4 := q2.drewN n3
  clear q1 q2 a1 a2 a3 hmade
  obtain ⟨w5, hw5⟩ : ∃ w5, (((((w.drewN (1 + n')).alloc (.cells ((filledZ zs id N 0).map (.int .i64)).toArray 3)).drewN n'').alloc (.cells #[.int .i64 W, .int .i64 H, .slice (some ⟨w.heap.size, 0, none⟩) N N] 135)).drewN n3) = w5 := ⟨_, rfl⟩
  rw [hw5] at a4 d2 q3 q4 ⊢
  clear hw5
  go_wp2_with fail
  go_loopw [35] (fun i wr => ∃ k : Nat, k ≤ N ∧ i = .int .i64 k ∧ Blk wr (w.heap.size + 1) 135 #[.int .i64 W, .int .i64 H, .slice (some ⟨w.heap.size, 0, none⟩) N N] ∧ Blk wr w.heap.size 3 ((filledZ zs id N k).map (.int .i64)).toArray ∧ Below w.heap.size w wr) (fun i _ => N - (intOf i).toNat)
  case atStart => exact ⟨0, Nat.zero_le _, rfl, q3, q4, a4⟩
  clear q3 q4 a4 d2
  clear w5
  case round =>
    obtain ⟨k, hk, rfl, q1, q2, hb⟩ := hrel
    by_cases hlt : k < N
    · have d0 := below_cell hb (HCELL.out k hlt)
      have e2 : wr.cell? ⟨w.heap.size + 1, 2, none⟩ = some (.slice (some ⟨w.heap.size, 0, none⟩) N N) := by rw [q1.cell]; rfl
      have hnx := filledZ_next (F := id) hl hlt
      have hzb := getD_byte hz hl hlt
      obtain ⟨z, hzz⟩ : ∃ z, zs.getD k 0 = z := ⟨_, rfl⟩
      rw [hzz] at d0 hnx hzb
      clear hzz
      have HNX := Lib.hid hnx; clear hnx
      go_upto_region 7 with fail
      refine Lex3.wp_region_lex [] (fun u' => u'.cell? ⟨w.heap.size + 1, 2, none⟩ = some (.slice (some ⟨w.heap.size, 0, none⟩) N N)) (fun u n h => h) e2 (by kernel_rfl) (by kernel_rfl) ?_
      refine Lex3.run_free (v := ?_) (by rfl) (by rfl) (fun u => ?_) ?_; rotate_left; (go_simp; try with_reducible rfl); simp only [Act.put, List.setIfInBounds_toArray, List.set_cons_zero, List.set_cons_succ]
      refine Lex3.run_free (v := ?_) (by rfl) (by rfl) (fun u => ?_) ?_; rotate_left; (go_simp; try with_reducible rfl); simp only [Act.put, List.setIfInBounds_toArray, List.set_cons_zero, List.set_cons_succ]
      refine Lex3.run_free (v := ?_) (by rfl) (by rfl) (fun u => ?_) ?_; rotate_left; (go_simp; try with_reducible rfl); simp only [Act.put, List.setIfInBounds_toArray, List.set_cons_zero, List.set_cons_succ]
      refine Lex3.run_load (v := ?_) (by rfl) (by rfl) (fun u hu => ?_) ?_; rotate_left; (go_simp; try with_reducible rfl); simp only [Act.put, List.setIfInBounds_toArray, List.set_cons_zero, List.set_cons_succ]
      refine Lex3.run_free (v := ?_) (by rfl) (by rfl) (fun u => ?_) ?_; rotate_left; (go_simp; try with_reducible rfl); simp only [Act.put, List.setIfInBounds_toArray, List.set_cons_zero, List.set_cons_succ]
      refine Lex3.run_free (v := ?_) (by rfl) (by rfl) (fun u => ?_) ?_; rotate_left; (go_simp; try with_reducible rfl); simp only [Act.put, List.setIfInBounds_toArray, List.set_cons_zero, List.set_cons_succ]
      refine Lex3.run_free (v := ?_) (by rfl) (by rfl) (fun u => ?_) ?_; rotate_left; (go_simp; try with_reducible rfl); simp only [Act.put, List.setIfInBounds_toArray, List.set_cons_zero, List.set_cons_succ]
      refine Lex3.run_eff (by rfl) (by rfl) (fun n' K' hK => ?_)
      go_simp
      refine (map_55_c z _ hzb.1 hzb.2).mono ?_
      rintro e w' ⟨rfl, rfl⟩
      refine hK _ _ e2 ?_
      clear hK K'
      try simp only [Act.put, List.setIfInBounds_toArray, List.set_cons_zero, List.set_cons_succ]
      refine Lex3.run_free (v := ?_) (by rfl) (by rfl) (fun u => ?_) ?_; rotate_left; (go_simp; try with_reducible rfl); simp only [Act.put, List.setIfInBounds_toArray, List.set_cons_zero, List.set_cons_succ]
      refine Lex3.run_eff (by rfl) (by rfl) (fun n'' K' hK => ?_)
      have f1 : (wr.drewN (1 + n' + n'')).frozen? ⟨w.heap.size, k, none⟩ = false := (q2.drewN (1 + n' + n'')).frozen k
      have g1 : (wr.drewN (1 + n' + n'')).cell? ⟨w.heap.size, k, none⟩ = some (.int .i64 ((filledZ zs id N k).getD k 0)) := by
        rw [(q2.drewN (1 + n' + n'')).cell k]
        have h4 : k < (filledZ zs id N k).length := by rw [filledZ_length hl hk]; exact hlt
        simp [h4]
      go_simp
      have q5 : Blk (((wr.drewN (1 + n' + n'')).setCell ⟨w.heap.size, k, none⟩ (.int .i64 z))) w.heap.size 3 ((filledZ zs id N (k + 1)).map (.int .i64)).toArray := by
        have h5 := Blk.set (q2.drewN (1 + n' + n'')) k (.int .i64 z)
        rw [List.setIfInBounds_toArray, ← List.map_set] at h5
        rw [← HNX.out]
        exact h5
      have q6 := (q1.drewN (1 + n' + n'')).far (p := ⟨w.heap.size, k, none⟩) (by simp) (.int .i64 z)
      have b6 := (below_drewN hb (1 + n' + n'')).setCell (p := ⟨w.heap.size, k, none⟩) (by simp) (.int .i64 z)
      refine hK _ _ (by rw [q6.cell]; rfl) ?_
      clear hK K'
      try simp only [Act.put, List.setIfInBounds_toArray, List.set_cons_zero, List.set_cons_succ]
      refine Lex3.run_nil (fun n3 => ?_)
      go_wp2_with fail
      go_roundw
      case rel => exact ⟨k + 1, by omega, by go_num, q6.drewN n3, q5.drewN n3, below_drewN b6 n3⟩
      case measure => simp [intOf]; omega
    · have hkn : k = N := by omega
      clear hk hlt
      subst hkn
      go_wp2_with fail
      go_ret
      rw [filledZ_all hl] at q2
      refine ⟨w.heap.size + 1, w.heap.size, k, rfl, ?_, by omega, Nat.le_refl _, hb⟩
      have fit : fitsB W H = true := by
        rw [fitsB_iff, ← Int.natCast_mul, HN.out]
        omega
      have hlm : ((zs.map id).map (Value.int .i64)).toArray.size = k := by simp [hl]
      have := plane_mk (tp := 135) (te := 3) (W := W) (H := H) (c := k) (by rw [HN.out]; exact q1) q2 hlm (by omega) fit (by rw [HN.out]; exact Nat.le_refl _) (by unfold maxLen; omega)
      rw [HN.out, List.take_of_length_le (by simp [hl])] at this
      exact this

set_option maxHeartbeats 1000000 in
theorem map_57_c (z : Int) (w : World) (h1 : 0 ≤ z) (h2 : z ≤ 255) : Calls Try.prog 57 #[.int .i64 z] w fun e w' => e = .returned (.int .u8 z) ∧ w = w' := by
  have y1 : IntKind.i64.wrap z = z := IntWalk.i64_in _ (by omega)
  have y2 : IntKind.u8.wrap z = z := by apply IntWalk.u8_in <;> omega
  have y3 : z % 256 = z := by omega
  go_enter Try.func57, Try.ntmps57
  go_wp2_with fail
  go_ret
  exact ⟨rfl, rfl⟩
theorem map_57_f (u : World) : (binOp .eql 93 (.func (.func 57) #[] #[]) .nilFunc).run Try.prog u = .ok (.bool false) u := by
  have hu : Try.prog.underlying 93 = some (.func #[3] #[5] false) := by kernel_rfl
  have h1 : (Op.equal 93 (.func (.func 57) #[] #[]) .nilFunc).run Try.prog u = .ok false u := by
    unfold Op.equal Op.maxDepth
    rw [show (10000 : Nat) = 9999 + 1 from rfl]
    unfold Op.equalIn
    rw [Sem.run_bind, run_underlying hu]
    rfl
  have h2 : binOp .eql 93 (.func (.func 57) #[] #[]) .nilFunc = (do let r ← Op.equal 93 (.func (.func 57) #[] #[]) .nilFunc; pure (.bool r)) := rfl
  rw [h2, Sem.run_bind, h1]
  rfl
set_option maxRecDepth 100000 in
set_option maxHeartbeats 4000000 in
theorem map_57 (b g W H c : Nat) (zs : List Int) (w : World) (hp : PI.PA w b g W H c (zs.map (.int .i64))) (hz : ∀ z ∈ zs, 0 ≤ z ∧ z ≤ 255) :
    Calls Try.prog 56 #[.pointer (some ⟨b, 0, none⟩), .func (.func 57) #[] #[]] w (MapPP8 w W H (zs.map id)) := by
  obtain ⟨i0, hi, hz0, hz1, hz2⟩ := info_parts P8.info
  have c0 := hp.c0
  have c1 := hp.c1
  have c2 := hp.c2
  have hsz := hp.size
  have hW := hp.wide
  have hH := hp.high
  have hs := hp.side
  have hl : zs.length = W * H := by simpa using hp.len
  have hcell : ∀ j, j < W * H → w.cell? ⟨g, j, none⟩ = some (.int .i64 (zs.getD j 0)) := fun j hj => by
    rw [hp.cellAt hj, List.getD_eq_getElem?_getD, List.getElem?_map, List.getElem?_eq_getElem (by omega), List.getD_eq_getElem?_getD, List.getElem?_eq_getElem (by omega)]
    rfl
  obtain ⟨N, hN⟩ : ∃ N, W * H = N := ⟨_, rfl⟩
  have hN1 : 1 ≤ N := by rw [← hN]; exact Nat.mul_le_mul hW hH
  rw [hN] at c2 hsz hl hcell
  have HN := Lib.hid hN; clear hN
  have HCELL := Lib.hid hcell; clear hcell
  have hmk : ∀ u : World, (Instr.makeSlice 28 (.int .i64 (N : Int)) (.int .i64 (N : Int))).run Try.prog u = .ok (.slice (some ⟨u.heap.size, 0, none⟩) N N) (u.alloc (.cells (madeCells (Value.cells (.int .u8 0)) N) 5)) := fun u => run_make_n 28 5 i0 (.int .u8 0) Try.underlying28 hi hz0 hz1 N (by rw [hz2]; omega) (by omega) u
  have hnf := map_57_f
  go_enter Try.func56, Try.ntmps56
  go_upto_region 3 with fail
  refine Lex3.wp_region_lex [] (fun u' => u'.cell? ⟨b, 0, none⟩ = some (.int .i64 W) ∧ u'.cell? ⟨b, 1, none⟩ = some (.int .i64 H) ∧ u'.cell? ⟨b, 2, none⟩ = some (.slice (some ⟨g, 0, none⟩) N c)) (fun u n h => h) ⟨c0, c1, c2⟩ (by kernel_rfl) (by kernel_rfl) ?_
  refine Lex3.run_free (v := ?_) (by rfl) (by rfl) (fun u => ?_) ?_; rotate_left; (go_simp; try with_reducible rfl); simp only [Act.put, List.setIfInBounds_toArray, List.set_cons_zero, List.set_cons_succ]
  refine Lex3.run_free (v := ?_) (by rfl) (by rfl) (fun u => ?_) ?_; rotate_left; (go_simp; try with_reducible rfl); simp only [Act.put, List.setIfInBounds_toArray, List.set_cons_zero, List.set_cons_succ]
  refine Lex3.run_free (v := ?_) (by rfl) (by rfl) (fun u => ?_) ?_; rotate_left; (go_simp; try with_reducible rfl); simp only [Act.put, List.setIfInBounds_toArray, List.set_cons_zero, List.set_cons_succ]
  refine Lex3.run_load (v := ?_) (by rfl) (by rfl) (fun u hu => ?_) ?_; rotate_left; (obtain ⟨hu0, hu1, hu2⟩ := hu; go_simp; try with_reducible rfl); simp only [Act.put, List.setIfInBounds_toArray, List.set_cons_zero, List.set_cons_succ]
  refine Lex3.run_free (v := ?_) (by rfl) (by rfl) (fun u => ?_) ?_; rotate_left; (go_simp; try with_reducible rfl); simp only [Act.put, List.setIfInBounds_toArray, List.set_cons_zero, List.set_cons_succ]
  refine Lex3.run_free (v := ?_) (by rfl) (by rfl) (fun u => ?_) ?_; rotate_left; (go_simp; try with_reducible rfl); simp only [Act.put, List.setIfInBounds_toArray, List.set_cons_zero, List.set_cons_succ]
  refine Lex3.run_free (v := ?_) (by rfl) (by rfl) (fun u => ?_) ?_; rotate_left; (go_simp; try with_reducible rfl); simp only [Act.put, List.setIfInBounds_toArray, List.set_cons_zero, List.set_cons_succ]
  refine Lex3.run_load (v := ?_) (by rfl) (by rfl) (fun u hu => ?_) ?_; rotate_left; (obtain ⟨hu0, hu1, hu2⟩ := hu; go_simp; try with_reducible rfl); simp only [Act.put, List.setIfInBounds_toArray, List.set_cons_zero, List.set_cons_succ]
  refine Lex3.run_free (v := ?_) (by rfl) (by rfl) (fun u => ?_) ?_; rotate_left; (go_simp; try with_reducible rfl); simp only [Act.put, List.setIfInBounds_toArray, List.set_cons_zero, List.set_cons_succ]
  refine Lex3.run_free (v := ?_) (by rfl) (by rfl) (fun u => ?_) ?_; rotate_left; (go_simp; try with_reducible rfl); simp only [Act.put, List.setIfInBounds_toArray, List.set_cons_zero, List.set_cons_succ]
  refine Lex3.run_free (v := ?_) (by rfl) (by rfl) (fun u => ?_) ?_; rotate_left; (go_simp; try with_reducible rfl); simp only [Act.put, List.setIfInBounds_toArray, List.set_cons_zero, List.set_cons_succ]
  refine Lex3.run_load (v := ?_) (by rfl) (by rfl) (fun u hu => ?_) ?_; rotate_left; (obtain ⟨hu0, hu1, hu2⟩ := hu; go_simp; try with_reducible rfl); simp only [Act.put, List.setIfInBounds_toArray, List.set_cons_zero, List.set_cons_succ]
  refine Lex3.run_free (v := ?_) (by rfl) (by rfl) (fun u => ?_) ?_; rotate_left; (go_simp; try with_reducible rfl); simp only [Act.put, List.setIfInBounds_toArray, List.set_cons_zero, List.set_cons_succ]
  refine Lex3.run_eff (by rfl) (by rfl) (fun n' K' hK => ?_)
  go_simp
  have a1 : Below w.heap.size w ((w.drewN (1 + n')).alloc (.cells (madeCells #[(.int .u8 0)] N) 5)) := (below_drewN (Below.refl _ _) _).alloc (by simp) _
  refine hK _ _ ⟨below_cell a1 c0, below_cell a1 c1, below_cell a1 c2⟩ ?_
  clear hK K'
  try simp only [Act.put, List.setIfInBounds_toArray, List.set_cons_zero, List.set_cons_succ]
  refine Lex3.run_free (v := ?_) (by rfl) (by rfl) (fun u => ?_) ?_; rotate_left; (go_simp; try with_reducible rfl); simp only [Act.put, List.setIfInBounds_toArray, List.set_cons_zero, List.set_cons_succ]
  refine Lex3.run_eff (by rfl) (by rfl) (fun n'' K' hK => ?_)
  go_simp
  have a2 : Below w.heap.size w (((w.drewN (1 + n')).alloc (.cells (madeCells #[(.int .u8 0)] N) 5)).drewN n'') := below_drewN a1 n''
  have a3 : Below w.heap.size w ((((w.drewN (1 + n')).alloc (.cells (madeCells #[(.int .u8 0)] N) 5)).drewN n'').alloc (.cells #[.int .i64 W, .int .i64 H, .slice (some ⟨w.heap.size, 0, none⟩) N N] 132)) := a2.alloc a2.size _
  refine hK _ _ ⟨below_cell a3 c0, below_cell a3 c1, below_cell a3 c2⟩ ?_
  clear hK K'
  try simp only [Act.put, List.setIfInBounds_toArray, List.set_cons_zero, List.set_cons_succ]
  refine Lex3.run_free (v := ?_) (by rfl) (by rfl) (fun u => ?_) ?_; rotate_left; (go_simp; try with_reducible rfl); simp only [Act.put, List.setIfInBounds_toArray, List.set_cons_zero, List.set_cons_succ]
  refine Lex3.run_nil (fun n3 => ?_)
  have a4 := below_drewN a3 n3
  have d2 := below_cell a4 c2
  have q1 : Blk ((((w.drewN (1 + n')).alloc (.cells (madeCells #[(.int .u8 0)] N) 5)).drewN n'').alloc (.cells #[.int .i64 W, .int .i64 H, .slice (some ⟨w.heap.size, 0, none⟩) N N] 132)) (w.heap.size + 1) 132 #[.int .i64 W, .int .i64 H, .slice (some ⟨w.heap.size, 0, none⟩) N N] := heap_alloc2_new (w.drewN (1 + n')) _ _
  have q2 : Blk ((((w.drewN (1 + n')).alloc (.cells (madeCells #[(.int .u8 0)] N) 5)).drewN n'').alloc (.cells #[.int .i64 W, .int .i64 H, .slice (some ⟨w.heap.size, 0, none⟩) N N] 132)) w.heap.size 5 (madeCells #[(.int .u8 0)] N) := heap_alloc2_old (w.drewN (1 + n')) _ _
  have hmade : madeCells #[(.int .u8 0)] N = ((filledZ zs id N 0).map (.int .u8)).toArray := made_filled zs id N
  rw [hmade] at q1 q2 a4 d2 ⊢
  have q3 := q1.drewN n3
  have q4 := q2.drewN n3
  clear q1 q2 a1 a2 a3 hmade
  obtain ⟨w5, hw5⟩ : ∃ w5, (((((w.drewN (1 + n')).alloc (.cells ((filledZ zs id N 0).map (.int .u8)).toArray 5)).drewN n'').alloc (.cells #[.int .i64 W, .int .i64 H, .slice (some ⟨w.heap.size, 0, none⟩) N N] 132)).drewN n3) = w5 := ⟨_, rfl⟩
  rw [hw5] at a4 d2 q3 q4 ⊢
  clear hw5
  go_wp2_with fail
  go_loopw [35] (fun i wr => ∃ k : Nat, k ≤ N ∧ i = .int .i64 k ∧ Blk wr (w.heap.size + 1) 132 #[.int .i64 W, .int .i64 H, .slice (some ⟨w.heap.size, 0, none⟩) N N] ∧ Blk wr w.heap.size 5 ((filledZ zs id N k).map (.int .u8)).toArray ∧ Below w.heap.size w wr) (fun i _ => N - (intOf i).toNat)
  case atStart => exact ⟨0, Nat.zero_le _, rfl, q3, q4, a4⟩
  clear q3 q4 a4 d2
  clear w5
  case round =>
    obtain ⟨k, hk, rfl, q1, q2, hb⟩ := hrel
    by_cases hlt : k < N
    · have d0 := below_cell hb (HCELL.out k hlt)
      have e2 : wr.cell? ⟨w.heap.size + 1, 2, none⟩ = some (.slice (some ⟨w.heap.size, 0, none⟩) N N) := by rw [q1.cell]; rfl
      have hnx := filledZ_next (F := id) hl hlt
      have hzb := getD_byte hz hl hlt
      obtain ⟨z, hzz⟩ : ∃ z, zs.getD k 0 = z := ⟨_, rfl⟩
      rw [hzz] at d0 hnx hzb
      clear hzz
      have HNX := Lib.hid hnx; clear hnx
      go_upto_region 7 with fail
      refine Lex3.wp_region_lex [] (fun u' => u'.cell? ⟨w.heap.size + 1, 2, none⟩ = some (.slice (some ⟨w.heap.size, 0, none⟩) N N)) (fun u n h => h) e2 (by kernel_rfl) (by kernel_rfl) ?_
      refine Lex3.run_free (v := ?_) (by rfl) (by rfl) (fun u => ?_) ?_; rotate_left; (go_simp; try with_reducible rfl); simp only [Act.put, List.setIfInBounds_toArray, List.set_cons_zero, List.set_cons_succ]
      refine Lex3.run_free (v := ?_) (by rfl) (by rfl) (fun u => ?_) ?_; rotate_left; (go_simp; try with_reducible rfl); simp only [Act.put, List.setIfInBounds_toArray, List.set_cons_zero, List.set_cons_succ]
      refine Lex3.run_free (v := ?_) (by rfl) (by rfl) (fun u => ?_) ?_; rotate_left; (go_simp; try with_reducible rfl); simp only [Act.put, List.setIfInBounds_toArray, List.set_cons_zero, List.set_cons_succ]
      refine Lex3.run_load (v := ?_) (by rfl) (by rfl) (fun u hu => ?_) ?_; rotate_left; (go_simp; try with_reducible rfl); simp only [Act.put, List.setIfInBounds_toArray, List.set_cons_zero, List.set_cons_succ]
      refine Lex3.run_free (v := ?_) (by rfl) (by rfl) (fun u => ?_) ?_; rotate_left; (go_simp; try with_reducible rfl); simp only [Act.put, List.setIfInBounds_toArray, List.set_cons_zero, List.set_cons_succ]
      refine Lex3.run_free (v := ?_) (by rfl) (by rfl) (fun u => ?_) ?_; rotate_left; (go_simp; try with_reducible rfl); simp only [Act.put, List.setIfInBounds_toArray, List.set_cons_zero, List.set_cons_succ]
      refine Lex3.run_free (v := ?_) (by rfl) (by rfl) (fun u => ?_) ?_; rotate_left; (go_simp; try with_reducible rfl); simp only [Act.put, List.setIfInBounds_toArray, List.set_cons_zero, List.set_cons_succ]
      refine Lex3.run_eff (by rfl) (by rfl) (fun n' K' hK => ?_)
      go_simp
      refine (map_57_c z _ hzb.1 hzb.2).mono ?_
      rintro e w' ⟨rfl, rfl⟩
      refine hK _ _ e2 ?_
      clear hK K'
      try simp only [Act.put, List.setIfInBounds_toArray, List.set_cons_zero, List.set_cons_succ]
      refine Lex3.run_free (v := ?_) (by rfl) (by rfl) (fun u => ?_) ?_; rotate_left; (go_simp; try with_reducible rfl); simp only [Act.put, List.setIfInBounds_toArray, List.set_cons_zero, List.set_cons_succ]
      refine Lex3.run_eff (by rfl) (by rfl) (fun n'' K' hK => ?_)
      have f1 : (wr.drewN (1 + n' + n'')).frozen? ⟨w.heap.size, k, none⟩ = false := (q2.drewN (1 + n' + n'')).frozen k
      have g1 : (wr.drewN (1 + n' + n'')).cell? ⟨w.heap.size, k, none⟩ = some (.int .u8 ((filledZ zs id N k).getD k 0)) := by
        rw [(q2.drewN (1 + n' + n'')).cell k]
        have h4 : k < (filledZ zs id N k).length := by rw [filledZ_length hl hk]; exact hlt
        simp [h4]
      go_simp
      have q5 : Blk (((wr.drewN (1 + n' + n'')).setCell ⟨w.heap.size, k, none⟩ (.int .u8 z))) w.heap.size 5 ((filledZ zs id N (k + 1)).map (.int .u8)).toArray := by
        have h5 := Blk.set (q2.drewN (1 + n' + n'')) k (.int .u8 z)
        rw [List.setIfInBounds_toArray, ← List.map_set] at h5
        rw [← HNX.out]
        exact h5
      have q6 := (q1.drewN (1 + n' + n'')).far (p := ⟨w.heap.size, k, none⟩) (by simp) (.int .u8 z)
      have b6 := (below_drewN hb (1 + n' + n'')).setCell (p := ⟨w.heap.size, k, none⟩) (by simp) (.int .u8 z)
      refine hK _ _ (by rw [q6.cell]; rfl) ?_
      clear hK K'
      try simp only [Act.put, List.setIfInBounds_toArray, List.set_cons_zero, List.set_cons_succ]
      refine Lex3.run_nil (fun n3 => ?_)
      go_wp2_with fail
      go_roundw
      case rel => exact ⟨k + 1, by omega, by go_num, q6.drewN n3, q5.drewN n3, below_drewN b6 n3⟩
      case measure => simp [intOf]; omega
    · have hkn : k = N := by omega
      clear hk hlt
      subst hkn
      go_wp2_with fail
      go_ret
      rw [filledZ_all hl] at q2
      refine ⟨w.heap.size + 1, w.heap.size, k, rfl, ?_, by omega, Nat.le_refl _, hb⟩
      have fit : fitsB W H = true := by
        rw [fitsB_iff, ← Int.natCast_mul, HN.out]
        omega
      have hlm : ((zs.map id).map (Value.int .u8)).toArray.size = k := by simp [hl]
      have := plane_mk (tp := 132) (te := 5) (W := W) (H := H) (c := k) (by rw [HN.out]; exact q1) q2 hlm (by omega) fit (by rw [HN.out]; exact Nat.le_refl _) (by unfold maxLen; omega)
      rw [HN.out, List.take_of_length_le (by simp [hl])] at this
      exact this

set_option maxHeartbeats 1000000 in
theorem map_65_c (z : Int) (w : World) (h1 : 0 ≤ z) (h2 : z ≤ 255) : Calls Try.prog 65 #[.int .u8 z] w fun e w' => e = .returned (.int .i64 z) ∧ w = w' := by
  have y1 : IntKind.i64.wrap z = z := IntWalk.i64_in _ (by omega)
  have y2 : IntKind.u8.wrap z = z := by apply IntWalk.u8_in <;> omega
  have y3 : z % 256 = z := by omega
  go_enter Try.func65, Try.ntmps65
  go_wp2_with fail
  go_ret
  exact ⟨rfl, rfl⟩
theorem map_65_f (u : World) : (binOp .eql 91 (.func (.func 65) #[] #[]) .nilFunc).run Try.prog u = .ok (.bool false) u := by
  have hu : Try.prog.underlying 91 = some (.func #[5] #[3] false) := by kernel_rfl
  have h1 : (Op.equal 91 (.func (.func 65) #[] #[]) .nilFunc).run Try.prog u = .ok false u := by
    unfold Op.equal Op.maxDepth
    rw [show (10000 : Nat) = 9999 + 1 from rfl]
    unfold Op.equalIn
    rw [Sem.run_bind, run_underlying hu]
    rfl
  have h2 : binOp .eql 91 (.func (.func 65) #[] #[]) .nilFunc = (do let r ← Op.equal 91 (.func (.func 65) #[] #[]) .nilFunc; pure (.bool r)) := rfl
  rw [h2, Sem.run_bind, h1]
  rfl
set_option maxRecDepth 100000 in
set_option maxHeartbeats 4000000 in
theorem map_65 (b g W H c : Nat) (zs : List Int) (w : World) (hp : P8.PA w b g W H c (zs.map (.int .u8))) (hz : ∀ z ∈ zs, 0 ≤ z ∧ z ≤ 255) :
    Calls Try.prog 54 #[.pointer (some ⟨b, 0, none⟩), .func (.func 65) #[] #[]] w (MapPPI w W H (zs.map id)) := by
  obtain ⟨i0, hi, hz0, hz1, hz2⟩ := info_parts PI.info
  have c0 := hp.c0
  have c1 := hp.c1
  have c2 := hp.c2
  have hsz := hp.size
  have hW := hp.wide
  have hH := hp.high
  have hs := hp.side
  have hl : zs.length = W * H := by simpa using hp.len
  have hcell : ∀ j, j < W * H → w.cell? ⟨g, j, none⟩ = some (.int .u8 (zs.getD j 0)) := fun j hj => by
    rw [hp.cellAt hj, List.getD_eq_getElem?_getD, List.getElem?_map, List.getElem?_eq_getElem (by omega), List.getD_eq_getElem?_getD, List.getElem?_eq_getElem (by omega)]
    rfl
  obtain ⟨N, hN⟩ : ∃ N, W * H = N := ⟨_, rfl⟩
  have hN1 : 1 ≤ N := by rw [← hN]; exact Nat.mul_le_mul hW hH
  rw [hN] at c2 hsz hl hcell
  have HN := Lib.hid hN; clear hN
  have HCELL := Lib.hid hcell; clear hcell
  have hmk : ∀ u : World, (Instr.makeSlice 50 (.int .i64 (N : Int)) (.int .i64 (N : Int))).run Try.prog u = .ok (.slice (some ⟨u.heap.size, 0, none⟩) N N) (u.alloc (.cells (madeCells (Value.cells (.int .i64 0)) N) 3)) := fun u => run_make_n 50 3 i0 (.int .i64 0) Try.underlying50 hi hz0 hz1 N (by rw [hz2]; omega) (by omega) u
  have hnf := map_65_f
  go_enter Try.func54, Try.ntmps54
  go_upto_region 3 with fail
  refine Lex3.wp_region_lex [] (fun u' => u'.cell? ⟨b, 0, none⟩ = some (.int .i64 W) ∧ u'.cell? ⟨b, 1, none⟩ = some (.int .i64 H) ∧ u'.cell? ⟨b, 2, none⟩ = some (.slice (some ⟨g, 0, none⟩) N c)) (fun u n h => h) ⟨c0, c1, c2⟩ (by kernel_rfl) (by kernel_rfl) ?_
  refine Lex3.run_free (v := ?_) (by rfl) (by rfl) (fun u => ?_) ?_; rotate_left; (go_simp; try with_reducible rfl); simp only [Act.put, List.setIfInBounds_toArray, List.set_cons_zero, List.set_cons_succ]
  refine Lex3.run_free (v := ?_) (by rfl) (by rfl) (fun u => ?_) ?_; rotate_left; (go_simp; try with_reducible rfl); simp only [Act.put, List.setIfInBounds_toArray, List.set_cons_zero, List.set_cons_succ]
  refine Lex3.run_free (v := ?_) (by rfl) (by rfl) (fun u => ?_) ?_; rotate_left; (go_simp; try with_reducible rfl); simp only [Act.put, List.setIfInBounds_toArray, List.set_cons_zero, List.set_cons_succ]
  refine Lex3.run_load (v := ?_) (by rfl) (by rfl) (fun u hu => ?_) ?_; rotate_left; (obtain ⟨hu0, hu1, hu2⟩ := hu; go_simp; try with_reducible rfl); simp only [Act.put, List.setIfInBounds_toArray, List.set_cons_zero, List.set_cons_succ]
  refine Lex3.run_free (v := ?_) (by rfl) (by rfl) (fun u => ?_) ?_; rotate_left; (go_simp; try with_reducible rfl); simp only [Act.put, List.setIfInBounds_toArray, List.set_cons_zero, List.set_cons_succ]
  refine Lex3.run_free (v := ?_) (by rfl) (by rfl) (fun u => ?_) ?_; rotate_left; (go_simp; try with_reducible rfl); simp only [Act.put, List.setIfInBounds_toArray, List.set_cons_zero, List.set_cons_succ]
  refine Lex3.run_free (v := ?_) (by rfl) (by rfl) (fun u => ?_) ?_; rotate_left; (go_simp; try with_reducible rfl); simp only [Act.put, List.setIfInBounds_toArray, List.set_cons_zero, List.set_cons_succ]
  refine Lex3.run_load (v := ?_) (by rfl) (by rfl) (fun u hu => ?_) ?_; rotate_left; (obtain ⟨hu0, hu1, hu2⟩ := hu; go_simp; try with_reducible rfl); simp only [Act.put, List.setIfInBounds_toArray, List.set_cons_zero, List.set_cons_succ]
  refine Lex3.run_free (v := ?_) (by rfl) (by rfl) (fun u => ?_) ?_; rotate_left; (go_simp; try with_reducible rfl); simp only [Act.put, List.setIfInBounds_toArray, List.set_cons_zero, List.set_cons_succ]
  refine Lex3.run_free (v := ?_) (by rfl) (by rfl) (fun u => ?_) ?_; rotate_left; (go_simp; try with_reducible rfl); simp only [Act.put, List.setIfInBounds_toArray, List.set_cons_zero, List.set_cons_succ]
  refine Lex3.run_free (v := ?_) (by rfl) (by rfl) (fun u => ?_) ?_; rotate_left; (go_simp; try with_reducible rfl); simp only [Act.put, List.setIfInBounds_toArray, List.set_cons_zero, List.set_cons_succ]
  refine Lex3.run_load (v := ?_) (by rfl) (by rfl) (fun u hu => ?_) ?_; rotate_left; (obtain ⟨hu0, hu1, hu2⟩ := hu; go_simp; try with_reducible rfl); simp only [Act.put, List.setIfInBounds_toArray, List.set_cons_zero, List.set_cons_succ]
  refine Lex3.run_free (v := ?_) (by rfl) (by rfl) (fun u => ?_) ?_; rotate_left; (go_simp; try with_reducible rfl); simp only [Act.put, List.setIfInBounds_toArray, List.set_cons_zero, List.set_cons_succ]
  refine Lex3.run_eff (by rfl) (by rfl) (fun n' K' hK => ?_)
  go_simp
  have a1 : Below w.heap.size w ((w.drewN (1 + n')).alloc (.cells (madeCells #[(.int .i64 0)] N) 3)) := (below_drewN (Below.refl _ _) _).alloc (by simp) _
  refine hK _ _ ⟨below_cell a1 c0, below_cell a1 c1, below_cell a1 c2⟩ ?_
  clear hK K'
  try simp only [Act.put, List.setIfInBounds_toArray, List.set_cons_zero, List.set_cons_succ]
  refine Lex3.run_free (v := ?_) (by rfl) (by rfl) (fun u => ?_) ?_; rotate_left; (go_simp; try with_reducible rfl); simp only [Act.put, List.setIfInBounds_toArray, List.set_cons_zero, List.set_cons_succ]
  refine Lex3.run_eff (by rfl) (by rfl) (fun n'' K' hK => ?_)
  go_simp
  have a2 : Below w.heap.size w (((w.drewN (1 + n')).alloc (.cells (madeCells #[(.int .i64 0)] N) 3)).drewN n'') := below_drewN a1 n''
  have a3 : Below w.heap.size w ((((w.drewN (1 + n')).alloc (.cells (madeCells #[(.int .i64 0)] N) 3)).drewN n'').alloc (.cells #[.int .i64 W, .int .i64 H, .slice (some ⟨w.heap.size, 0, none⟩) N N] 135)) := a2.alloc a2.size _
  refine hK _ _ ⟨below_cell a3 c0, below_cell a3 c1, below_cell a3 c2⟩ ?_
  clear hK K'
  try simp only [Act.put, List.setIfInBounds_toArray, List.set_cons_zero, List.set_cons_succ]
  refine Lex3.run_free (v := ?_) (by rfl) (by rfl) (fun u => ?_) ?_; rotate_left; (go_simp; try with_reducible rfl); simp only [Act.put, List.setIfInBounds_toArray, List.set_cons_zero, List.set_cons_succ]
  refine Lex3.run_nil (fun n3 => ?_)
  have a4 := below_drewN a3 n3
  have d2 := below_cell a4 c2
  have q1 : Blk ((((w.drewN (1 + n')).alloc (.cells (madeCells #[(.int .i64 0)] N) 3)).drewN n'').alloc (.cells #[.int .i64 W, .int .i64 H, .slice (some ⟨w.heap.size, 0, none⟩) N N] 135)) (w.heap.size + 1) 135 #[.int .i64 W, .int .i64 H, .slice (some ⟨w.heap.size, 0, none⟩) N N] := heap_alloc2_new (w.drewN (1 + n')) _ _
  have q2 : Blk ((((w.drewN (1 + n')).alloc (.cells (madeCells #[(.int .i64 0)] N) 3)).drewN n'').alloc (.cells #[.int .i64 W, .int .i64 H, .slice (some ⟨w.heap.size, 0, none⟩) N N] 135)) w.heap.size 3 (madeCells #[(.int .i64 0)] N) := heap_alloc2_old (w.drewN (1 + n')) _ _
  have hmade : madeCells #[(.int .i64 0)] N = ((filledZ zs id N 0).map (.int .i64)).toArray := made_filled zs id N
  rw [hmade] at q1 q2 a4 d2 ⊢
  have q3 := q1.drewN n3
  have q4 := q2.drewN n3
  clear q1 q2 a1 a2 a3 hmade
  obtain ⟨w5, hw5⟩ : ∃ w5, (((((w.drewN (1 + n')).alloc (.cells ((filledZ zs id N 0).map (.int .i64)).toArray 3)).drewN n'').alloc (.cells #[.int .i64 W, .int .i64 H, .slice (some ⟨w.heap.size, 0, none⟩) N N] 135)).drewN n3) = w5 := ⟨_, rfl⟩
  rw [hw5] at a4 d2 q3 q4 ⊢
  clear hw5
  go_wp2_with fail
  go_loopw [35] (fun i wr => ∃ k : Nat, k ≤ N ∧ i = .int .i64 k ∧ Blk wr (w.heap.size + 1) 135 #[.int .i64 W, .int .i64 H, .slice (some ⟨w.heap.size, 0, none⟩) N N] ∧ Blk wr w.heap.size 3 ((filledZ zs id N k).map (.int .i64)).toArray ∧ Below w.heap.size w wr) (fun i _ => N - (intOf i).toNat)
  case atStart => exact ⟨0, Nat.zero_le _, rfl, q3, q4, a4⟩
  clear q3 q4 a4 d2
  clear w5
  case round =>
    obtain ⟨k, hk, rfl, q1, q2, hb⟩ := hrel
    by_cases hlt : k < N
    · have d0 := below_cell hb (HCELL.out k hlt)
      have e2 : wr.cell? ⟨w.heap.size + 1, 2, none⟩ = some (.slice (some ⟨w.heap.size, 0, none⟩) N N) := by rw [q1.cell]; rfl
      have hnx := filledZ_next (F := id) hl hlt
      have hzb := getD_byte hz hl hlt
      obtain ⟨z, hzz⟩ : ∃ z, zs.getD k 0 = z := ⟨_, rfl⟩
      rw [hzz] at d0 hnx hzb
      clear hzz
      have HNX := Lib.hid hnx; clear hnx
      go_upto_region 7 with fail
      refine Lex3.wp_region_lex [] (fun u' => u'.cell? ⟨w.heap.size + 1, 2, none⟩ = some (.slice (some ⟨w.heap.size, 0, none⟩) N N)) (fun u n h => h) e2 (by kernel_rfl) (by kernel_rfl) ?_
      refine Lex3.run_free (v := ?_) (by rfl) (by rfl) (fun u => ?_) ?_; rotate_left; (go_simp; try with_reducible rfl); simp only [Act.put, List.setIfInBounds_toArray, List.set_cons_zero, List.set_cons_succ]
      refine Lex3.run_free (v := ?_) (by rfl) (by rfl) (fun u => ?_) ?_; rotate_left; (go_simp; try with_reducible rfl); simp only [Act.put, List.setIfInBounds_toArray, List.set_cons_zero, List.set_cons_succ]
      refine Lex3.run_free (v := ?_) (by rfl) (by rfl) (fun u => ?_) ?_; rotate_left; (go_simp; try with_reducible rfl); simp only [Act.put, List.setIfInBounds_toArray, List.set_cons_zero, List.set_cons_succ]
      refine Lex3.run_load (v := ?_) (by rfl) (by rfl) (fun u hu => ?_) ?_; rotate_left; (go_simp; try with_reducible rfl); simp only [Act.put, List.setIfInBounds_toArray, List.set_cons_zero, List.set_cons_succ]
      refine Lex3.run_free (v := ?_) (by rfl) (by rfl) (fun u => ?_) ?_; rotate_left; (go_simp; try with_reducible rfl); simp only [Act.put, List.setIfInBounds_toArray, List.set_cons_zero, List.set_cons_succ]
      refine Lex3.run_free (v := ?_) (by rfl) (by rfl) (fun u => ?_) ?_; rotate_left; (go_simp; try with_reducible rfl); simp only [Act.put, List.setIfInBounds_toArray, List.set_cons_zero, List.set_cons_succ]
      refine Lex3.run_free (v := ?_) (by rfl) (by rfl) (fun u => ?_) ?_; rotate_left; (go_simp; try with_reducible rfl); simp only [Act.put, List.setIfInBounds_toArray, List.set_cons_zero, List.set_cons_succ]
      refine Lex3.run_eff (by rfl) (by rfl) (fun n' K' hK => ?_)
      go_simp
      refine (map_65_c z _ hzb.1 hzb.2).mono ?_
      rintro e w' ⟨rfl, rfl⟩
      refine hK _ _ e2 ?_
      clear hK K'
      try simp only [Act.put, List.setIfInBounds_toArray, List.set_cons_zero, List.set_cons_succ]
      refine Lex3.run_free (v := ?_) (by rfl) (by rfl) (fun u => ?_) ?_; rotate_left; (go_simp; try with_reducible rfl); simp only [Act.put, List.setIfInBounds_toArray, List.set_cons_zero, List.set_cons_succ]
      refine Lex3.run_eff (by rfl) (by rfl) (fun n'' K' hK => ?_)
      have f1 : (wr.drewN (1 + n' + n'')).frozen? ⟨w.heap.size, k, none⟩ = false := (q2.drewN (1 + n' + n'')).frozen k
      have g1 : (wr.drewN (1 + n' + n'')).cell? ⟨w.heap.size, k, none⟩ = some (.int .i64 ((filledZ zs id N k).getD k 0)) := by
        rw [(q2.drewN (1 + n' + n'')).cell k]
        have h4 : k < (filledZ zs id N k).length := by rw [filledZ_length hl hk]; exact hlt
        simp [h4]
      go_simp
      have q5 : Blk (((wr.drewN (1 + n' + n'')).setCell ⟨w.heap.size, k, none⟩ (.int .i64 z))) w.heap.size 3 ((filledZ zs id N (k + 1)).map (.int .i64)).toArray := by
        have h5 := Blk.set (q2.drewN (1 + n' + n'')) k (.int .i64 z)
        rw [List.setIfInBounds_toArray, ← List.map_set] at h5
        rw [← HNX.out]
        exact h5
      have q6 := (q1.drewN (1 + n' + n'')).far (p := ⟨w.heap.size, k, none⟩) (by simp) (.int .i64 z)
      have b6 := (below_drewN hb (1 + n' + n'')).setCell (p := ⟨w.heap.size, k, none⟩) (by simp) (.int .i64 z)
      refine hK _ _ (by rw [q6.cell]; rfl) ?_
      clear hK K'
      try simp only [Act.put, List.setIfInBounds_toArray, List.set_cons_zero, List.set_cons_succ]
      refine Lex3.run_nil (fun n3 => ?_)
      go_wp2_with fail
      go_roundw
      case rel => exact ⟨k + 1, by omega, by go_num, q6.drewN n3, q5.drewN n3, below_drewN b6 n3⟩
      case measure => simp [intOf]; omega
    · have hkn : k = N := by omega
      clear hk hlt
      subst hkn
      go_wp2_with fail
      go_ret
      rw [filledZ_all hl] at q2
      refine ⟨w.heap.size + 1, w.heap.size, k, rfl, ?_, by omega, Nat.le_refl _, hb⟩
      have fit : fitsB W H = true := by
        rw [fitsB_iff, ← Int.natCast_mul, HN.out]
        omega
      have hlm : ((zs.map id).map (Value.int .i64)).toArray.size = k := by simp [hl]
      have := plane_mk (tp := 135) (te := 3) (W := W) (H := H) (c := k) (by rw [HN.out]; exact q1) q2 hlm (by omega) fit (by rw [HN.out]; exact Nat.le_refl _) (by unfold maxLen; omega)
      rw [HN.out, List.take_of_length_le (by simp [hl])] at this
      exact this
end Go.Proofs.Ytlbocfinjlkebaa.Byt
