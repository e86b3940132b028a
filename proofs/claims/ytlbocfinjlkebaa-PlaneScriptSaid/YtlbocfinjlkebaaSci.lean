/- PlaneScript: Map with the law's own function. -/
import Derived.Test.YtlbocfinjlkebaaScf
import Derived.Test.YtlbocfinjlkebaaMap
import Derived.Test.YtlbocfinjlkebaaLex3
namespace Go.Proofs.Ytlbocfinjlkebaa.Scr
open Go.RowKit Go.Proofs.Ytlbocfinjlkebaa.Byt Go.Proofs.Ytlbocfinjlkebaa.R12

/-- three times, and V -/
def tri (V x : Int) : Int := wrap64 (wrap64 (3 * x) + V)
/-- what the function that Map is handed does -/
def AskP (S a : Nat) (w : World) (v : Value) (n : Nat) (xs : List Value) (y : Int) (e : Ending) (w' : World) : Prop :=
  ∃ v', e = .returned (.int .i64 y) ∧ Blk w' a 50 #[v'] ∧ w'.ownsRow S 3 1 v' (n + 1) xs ∧ (v'.ownBlock = v.ownBlock ∨ ∃ g, v'.ownBlock = some g ∧ w.heap.size ≤ g) ∧ Below S w w' ∧ w.heap.size ≤ w'.heap.size ∧
    ∀ x, x < w.heap.size → x ≠ a → v.ownBlock ≠ some x → w'.heap[x]? = w.heap[x]?
set_option maxRecDepth 100000 in
set_option maxHeartbeats 4000000 in
theorem asked_any (S a t n : Nat) (v : Value) (xs : List Value) (x V : Int) (C : Array Value) (w : World) (ha : Blk w a 50 #[v]) (ho : w.ownsRow S 3 1 v n xs) (ht : Blk w t 119 C) (hC : C[7]? = some (.int .i64 V)) (hS : S ≤ a) (hn : n ≤ 67108864) (hne : v.ownBlock ≠ some a) (hvt : v.ownBlock ≠ some t) (hta : t ≠ a) :
    Calls Try.prog 113 #[.int .i64 x, .pointer (some ⟨a, 0, none⟩), .pointer (some ⟨t, 0, none⟩)] w (AskP S a w v n (xs ++ [.int .i64 x]) (tri V x)) := by
  obtain ⟨i0, hi, hz0, hz1, hz2⟩ := info_parts PI.info
  have hSw : S ≤ w.heap.size := Nat.le_of_lt (Nat.lt_of_le_of_lt hS ha.lt)
  have ca : w.cell? ⟨a, 0, none⟩ = some v := by rw [ha.cell]; rfl
  have HC := Lib.hid hC; clear hC
  go_enter Try.func113, Try.ntmps113
  go_upto_region 2 with (at_builtin; refine wpList_append_lies _ rfl (.tmp 5) (.tmp 7) 50 rfl S 3 i0 (.int .i64 0) 1 8 Try.underlying50 hi hz0 hz1 hz2 rfl (by decide) v n _ rfl (ho.alloc _) ⟨w.heap.size, 0, none⟩ 1 1 [.int .i64 x] rfl rfl (show ∀ i u, _ → World.cell? _ _ = _ from cell_one_new w _ _) (by intro u hu; simp at hu; subst hu; rfl) (by decide) (by unfold maxLen; omega) (by omega) (show S ≤ (w.alloc (.cells #[.int .i64 x] 3)).heap.size by simp; omega) (w.heap.size + 1) (show (w.alloc (.cells #[.int .i64 x] 3)).heap.size = _ by simp) ?_; intro gg cap w1 hown hgrow hat hlt1; have b1 := (ha.alloc (.cells #[.int .i64 x] 3)).grown hgrow (fun e => hne e.symm); have r2 : w1.cell? ⟨a, 0, none⟩ = some v := (by rw [b1.cell]; rfl); have r3 : w1.frozen? ⟨a, 0, none⟩ = false := b1.frozen 0)
  have hag : a ≠ gg := by
    rintro rfl
    rcases hat with q | q
    · exact hne q
    · have := ha.lt; omega
  have t1 := (ht.alloc (.cells #[.int .i64 x] 3)).grown hgrow (fun e => hvt e.symm)
  have t2 := t1.far (p := ⟨a, 0, none⟩) hta (.slice (some ⟨gg, 0, none⟩) (n + 1) cap)
  have ct : (w1.setCell ⟨a, 0, none⟩ (.slice (some ⟨gg, 0, none⟩) (n + 1) cap)).cell? ⟨t, 7, none⟩ = some (.int .i64 V) := by rw [t2.cell]; exact HC.out
  have fin : Blk (w1.setCell ⟨a, 0, none⟩ (.slice (some ⟨gg, 0, none⟩) (n + 1) cap)) a 50 #[.slice (some ⟨gg, 0, none⟩) (n + 1) cap] := Blk.set b1 0 _
  have fown : (w1.setCell ⟨a, 0, none⟩ (.slice (some ⟨gg, 0, none⟩) (n + 1) cap)).ownsRow S 3 1 (.slice (some ⟨gg, 0, none⟩) (n + 1) cap) (n + 1) (xs ++ [.int .i64 x]) := ownsRow_setCell_other hown (by simp [Value.ownBlock]; exact fun e => hag e.symm) _
  have fb : Below S w (w1.setCell ⟨a, 0, none⟩ (.slice (some ⟨gg, 0, none⟩) (n + 1) cap)) := (((Below.refl S w).alloc hSw _).grown hgrow (by simp; omega) (fun j hj => (ho.lt j hj).1)).setCell hS _
  have fs : w.heap.size ≤ (w1.setCell ⟨a, 0, none⟩ (.slice (some ⟨gg, 0, none⟩) (n + 1) cap)).heap.size := fb.size
  have fk : ∀ y, y < w.heap.size → y ≠ a → v.ownBlock ≠ some y → (w1.setCell ⟨a, 0, none⟩ (.slice (some ⟨gg, 0, none⟩) (n + 1) cap)).heap[y]? = w.heap[y]? := fun y hy h1 h2 => by
    rw [Below.heap_setCell w1 _ _ y h1, hgrow.block y (by simp; omega) (fun e => h2 e.symm), heap_alloc_old w _ hy]
  have fo : (Value.slice (some ⟨gg, 0, none⟩) (n + 1) cap).ownBlock = v.ownBlock ∨ ∃ g, (Value.slice (some ⟨gg, 0, none⟩) (n + 1) cap).ownBlock = some g ∧ w.heap.size ≤ g := by
    rcases hat with q | q
    · exact .inl q.symm
    · exact .inr ⟨gg, rfl, by omega⟩
  generalize (w1.setCell ⟨a, 0, none⟩ (.slice (some ⟨gg, 0, none⟩) (n + 1) cap)) = w2 at ct fin fown fb fs fk ⊢
  generalize (Value.slice (some ⟨gg, 0, none⟩) (n + 1) cap) = v' at fin fown fo ⊢
  clear hown hgrow hat hlt1 b1 r2 r3 t1 t2
  have HF := Lib.hid (And.intro fo fk); clear fo fk
  go_wp2_with fail
  go_ret
  exact ⟨v', rfl, fin, fown, HF.out.1, fb, fs, HF.out.2⟩
theorem cl_nil (a t : Nat) (u : World) : (binOp .eql 105 (.func (.func 113) #[] #[.pointer (some ⟨a, 0, none⟩), .pointer (some ⟨t, 0, none⟩)]) .nilFunc).run Try.prog u = .ok (.bool false) u := by
  have hu : Try.prog.underlying 105 = some (.func #[3] #[3] false) := by kernel_rfl
  have h1 : (Op.equal 105 (.func (.func 113) #[] #[.pointer (some ⟨a, 0, none⟩), .pointer (some ⟨t, 0, none⟩)]) .nilFunc).run Try.prog u = .ok false u := by
    unfold Op.equal Op.maxDepth
    rw [show (10000 : Nat) = 9999 + 1 from rfl]
    unfold Op.equalIn
    rw [Sem.run_bind, run_underlying hu]
    rfl
  have h2 : binOp .eql 105 (.func (.func 113) #[] #[.pointer (some ⟨a, 0, none⟩), .pointer (some ⟨t, 0, none⟩)]) .nilFunc = (do let r ← Op.equal 105 (.func (.func 113) #[] #[.pointer (some ⟨a, 0, none⟩), .pointer (some ⟨t, 0, none⟩)]) .nilFunc; pure (.bool r)) := rfl
  rw [h2, Sem.run_bind, h1]
  rfl

/-- what Map makes with it -/
def MapQ (S a t : Nat) (C : Array Value) (w0 : World) (W H : Nat) (zs : List Int) (V : Int) (e : Ending) (w : World) : Prop :=
  ∃ p g c v, e = .returned (.pointer (some ⟨p, 0, none⟩)) ∧ PI.PA w p g W H c ((zs.map (tri V)).map (.int .i64)) ∧ w0.heap.size ≤ p ∧ w0.heap.size ≤ g ∧ Blk w a 50 #[v] ∧ w.ownsRow S 3 1 v (W * H) (zs.map (.int .i64)) ∧ v.ownBlock ≠ some p ∧ v.ownBlock ≠ some g ∧ Blk w t 119 C ∧ Below S w0 w
set_option maxRecDepth 100000 in
set_option maxHeartbeats 8000000 in
theorem mapQ_any (S a t b g W H c : Nat) (zs : List Int) (V : Int) (C : Array Value) (w : World) (hp : PI.PA w b g W H c (zs.map (.int .i64))) (hbS : b < S) (hgS : g < S) (ha : Blk w a 50 #[.slice none 0 0]) (ht : Blk w t 119 C) (hC : C[7]? = some (.int .i64 V)) (hS : S ≤ a) (hta : t ≠ a) :
    Calls Try.prog 104 #[.pointer (some ⟨b, 0, none⟩), (.func (.func 113) #[] #[.pointer (some ⟨a, 0, none⟩), .pointer (some ⟨t, 0, none⟩)])] w (MapQ S a t C w W H zs V) := by
  obtain ⟨i0, hi, hz0, hz1, hz2⟩ := info_parts PI.info
  have hSw : S ≤ w.heap.size := Nat.le_of_lt (Nat.lt_of_le_of_lt hS ha.lt)
  have c0 := hp.c0
  have c1 := hp.c1
  have c2 := hp.c2
  have hsz := hp.size
  have hW := hp.wide
  have hH := hp.high
  have hs := hp.side
  have hl : zs.length = W * H := by simpa using hp.len
  have hcell : ∀ u j, Below S w u → j < W * H → u.cell? ⟨g, j, none⟩ = some (.int .i64 (zs.getD j 0)) := fun u j hb hj => by
    rw [hb.cell (p := ⟨g, j, none⟩) hgS, hp.cellAt hj, List.getD_eq_getElem?_getD, List.getElem?_map, List.getElem?_eq_getElem (by omega), List.getD_eq_getElem?_getD, List.getElem?_eq_getElem (by omega)]
    rfl
  obtain ⟨N, hN⟩ : ∃ N, W * H = N := ⟨_, rfl⟩
  have hN1 : 1 ≤ N := by rw [← hN]; exact Nat.mul_le_mul hW hH
  rw [hN] at c2 hsz hl hcell
  have HN := Lib.hid hN; clear hN
  have HCELL := Lib.hid hcell; clear hcell
  have HC := Lib.hid hC; clear hC
  have hmk : ∀ u : World, (Instr.makeSlice 50 (.int .i64 (N : Int)) (.int .i64 (N : Int))).run Try.prog u = .ok (.slice (some ⟨u.heap.size, 0, none⟩) N N) (u.alloc (.cells (madeCells (Value.cells (.int .i64 0)) N) 3)) := fun u => run_make_n 50 3 i0 (.int .i64 0) Try.underlying50 hi hz0 hz1 N (by rw [hz2]; omega) (by omega) u
  have hnf := cl_nil a t
  have HAL := Lib.hid ha.lt
  have HTL := Lib.hid ht.lt
  go_enter Try.func104, Try.ntmps104
  go_upto_region 3 with fail
  refine Lex3.wp_region_lex [] (fun u' => u'.cell? ⟨b, 0, none⟩ = some (.int .i64 W) ∧ u'.cell? ⟨b, 1, none⟩ = some (.int .i64 H) ∧ u'.cell? ⟨b, 2, none⟩ = some (.slice (some ⟨g, 0, none⟩) N c)) (fun u n h => h) ⟨c0, c1, c2⟩ (by kernel_rfl) (by kernel_rfl) ?_
  refine Lex3.run_free (v := ?_) (by rfl) (by rfl) (fun u => ?_) ?_; rotate_left; (go_simp; try with_reducible rfl); simp only [Act.put, List.setIfInBounds_toArray, List.set_cons_zero, List.set_cons_succ]
  refine Lex3.run_free (v := ?_) (by rfl) (by rfl) (fun u => ?_) ?_; rotate_left; (go_simp; try with_reducible rfl); simp only [Act.put, List.setIfInBounds_toArray, List.set_cons_zero, List.set_cons_succ]
  refine Lex3.run_free (v := ?_) (by rfl) (by rfl) (fun u => ?_) ?_; rotate_left; (go_simp; try with_reducible rfl); simp only [Act.put, List.setIfInBounds_toArray, List.set_cons_zero, List.set_cons_succ]
  refine Lex3.run_load (v := ?_) (by rfl) (by rfl) (fun u hu => ?_) ?_; rotate_left; (obtain ⟨hu0, hu1, hu2⟩ := hu; go_simp; try with_reducible rfl); simp only [Act.put, List.setIfInBounds_toArray, List.set_cons_zero, List.set_cons_succ]
  refine Lex3.run_free (v := ?_) (by rfl) (by rfl) (fun u => ?_) ?_; rotate_left; (go_simp; try with_reducible rfl); simp only [Act.put, List.setIfInBounds_toArray, List.set_cons_zero, List.set_cons_succ]
  refine Lex3.run_free (v := ?_) (by rfl) (by rfl) (fun u => ?_) ?_; rotate_left; (go_simp; try with_reducible rfl); simp only [Act.put, List.setIfInBounds_toArray, List.set_cons_zero, List.set_cons_succ]
  refine Lex3.run_free (v := ?_) (by rfl) (by rfl) (fun u => ?_) ?_; rotate_left; (go_simp; try with_reducible rfl); simp only [Act.put, List.setIfInBounds_toArray, List.set_cons_zero, List.set_cons_succ]
  refine Lex3.run_load (v := ?_) (by rfl) (by rfl) (fun u hu => ?_) ?_; rotate_left; (obtain ⟨hu0, hu1, hu2⟩ := hu; go_simp; try with_reducible rfl); simp only [Act.put, List.setIfInBounds_toArray, List.set_cons_zero, List.set_cons_succ]
  refine Lex3.run_free (v := ?_) (by rfl) (by rfl) (fun u => ?_) ?_; rotate_left; (go_simp; try with_reducible rfl); simp only [Act.put, List.setIfInBounds_toArray, List.set_cons_zero, List.set_cons_succ]
  refine Lex3.run_free (v := ?_) (by rfl) (by rfl) (fun u => ?_) ?_; rotate_left; (go_simp; try with_reducible rfl); simp only [Act.put, List.setIfInBounds_toArray, List.set_cons_zero, List.set_cons_succ]
  refine Lex3.run_free (v := ?_) (by rfl) (by rfl) (fun u => ?_) ?_; rotate_left; (go_simp; try with_reducible rfl); simp only [Act.put, List.setIfInBounds_toArray, List.set_cons_zero, List.set_cons_succ]
  refine Lex3.run_load (v := ?_) (by rfl) (by rfl) (fun u hu => ?_) ?_; rotate_left; (obtain ⟨hu0, hu1, hu2⟩ := hu; go_simp; try with_reducible rfl); simp only [Act.put, List.setIfInBounds_toArray, List.set_cons_zero, List.set_cons_succ]
  refine Lex3.run_free (v := ?_) (by rfl) (by rfl) (fun u => ?_) ?_; rotate_left; (go_simp; try with_reducible rfl); simp only [Act.put, List.setIfInBounds_toArray, List.set_cons_zero, List.set_cons_succ]
  refine Lex3.run_eff (by rfl) (by rfl) (fun n' K' hK => ?_)
  go_simp
  have a1 : Below w.heap.size w ((w.drewN (1 + n')).alloc (.cells (madeCells #[(.int .i64 0)] N) 3)) := (below_drewN (Below.refl _ _) _).alloc (by simp) _
  refine hK _ _ ⟨below_cell a1 c0, below_cell a1 c1, below_cell a1 c2⟩ ?_
  clear hK K'
  try simp only [Act.put, List.setIfInBounds_toArray, List.set_cons_zero, List.set_cons_succ]
  refine Lex3.run_free (v := ?_) (by rfl) (by rfl) (fun u => ?_) ?_; rotate_left; (go_simp; try with_reducible rfl); simp only [Act.put, List.setIfInBounds_toArray, List.set_cons_zero, List.set_cons_succ]
  refine Lex3.run_eff (by rfl) (by rfl) (fun n'' K' hK => ?_)
  go_simp
  have a2 : Below w.heap.size w (((w.drewN (1 + n')).alloc (.cells (madeCells #[(.int .i64 0)] N) 3)).drewN n'') := below_drewN a1 n''
  have a3 : Below w.heap.size w ((((w.drewN (1 + n')).alloc (.cells (madeCells #[(.int .i64 0)] N) 3)).drewN n'').alloc (.cells #[.int .i64 W, .int .i64 H, .slice (some ⟨w.heap.size, 0, none⟩) N N] 135)) := a2.alloc a2.size _
  refine hK _ _ ⟨below_cell a3 c0, below_cell a3 c1, below_cell a3 c2⟩ ?_
  clear hK K'
  try simp only [Act.put, List.setIfInBounds_toArray, List.set_cons_zero, List.set_cons_succ]
  refine Lex3.run_free (v := ?_) (by rfl) (by rfl) (fun u => ?_) ?_; rotate_left; (go_simp; try with_reducible rfl); simp only [Act.put, List.setIfInBounds_toArray, List.set_cons_zero, List.set_cons_succ]
  refine Lex3.run_nil (fun n3 => ?_)
  have a4 := below_drewN a3 n3
  have d2 := below_cell a4 c2
  have q1 : Blk ((((w.drewN (1 + n')).alloc (.cells (madeCells #[(.int .i64 0)] N) 3)).drewN n'').alloc (.cells #[.int .i64 W, .int .i64 H, .slice (some ⟨w.heap.size, 0, none⟩) N N] 135)) (w.heap.size + 1) 135 #[.int .i64 W, .int .i64 H, .slice (some ⟨w.heap.size, 0, none⟩) N N] := heap_alloc2_new (w.drewN (1 + n')) _ _
  have q2 : Blk ((((w.drewN (1 + n')).alloc (.cells (madeCells #[(.int .i64 0)] N) 3)).drewN n'').alloc (.cells #[.int .i64 W, .int .i64 H, .slice (some ⟨w.heap.size, 0, none⟩) N N] 135)) w.heap.size 3 (madeCells #[(.int .i64 0)] N) := heap_alloc2_old (w.drewN (1 + n')) _ _
  have hmade : madeCells #[(.int .i64 0)] N = ((filledZ zs (tri V) N 0).map (.int .i64)).toArray := made_filled zs (tri V) N
  rw [hmade] at q1 q2 a4 d2 ⊢
  have q3 := q1.drewN n3
  have q4 := q2.drewN n3
  clear q1 q2 a1 a2 a3 hmade
  obtain ⟨w5, hw5⟩ : ∃ w5, (((((w.drewN (1 + n')).alloc (.cells ((filledZ zs (tri V) N 0).map (.int .i64)).toArray 3)).drewN n'').alloc (.cells #[.int .i64 W, .int .i64 H, .slice (some ⟨w.heap.size, 0, none⟩) N N] 135)).drewN n3) = w5 := ⟨_, rfl⟩
  rw [hw5] at a4 d2 q3 q4 ⊢
  clear hw5
  have ha5 := ha.kept a4
  have ht5 := ht.kept a4
  have hb5 := a4.mono hSw
  generalize hqg : w.heap.size = qg at q3 q4 a4 ⊢
  have hqa : a < qg := by rw [← hqg]; exact HAL.out
  have hqt : t < qg := by rw [← hqg]; exact HTL.out
  have hqS : S ≤ qg := by rw [← hqg]; exact hSw
  have HQG := Lib.hid hqg; clear hqg
  clear hnf hmk c0 c1 c2 a4
  go_wp2_with fail
  go_loopw [35] (fun i wr => ∃ (k : Nat) (v : Value), k ≤ N ∧ i = .int .i64 k ∧ Blk wr (qg + 1) 135 #[.int .i64 W, .int .i64 H, .slice (some ⟨qg, 0, none⟩) N N] ∧ Blk wr qg 3 ((filledZ zs (tri V) N k).map (.int .i64)).toArray ∧ Below S w wr ∧ Blk wr a 50 #[v] ∧ wr.ownsRow S 3 1 v k ((zs.take k).map (.int .i64)) ∧ v.ownBlock ≠ some (qg + 1) ∧ v.ownBlock ≠ some qg ∧ v.ownBlock ≠ some a ∧ v.ownBlock ≠ some t ∧ Blk wr t 119 C) (fun i _ => N - (intOf i).toNat)
  case atStart => exact ⟨0, .slice none 0 0, Nat.zero_le _, rfl, q3, q4, hb5, ha5, World.ownsRow_nil _ _ _ _, by simp [Value.ownBlock], by simp [Value.ownBlock], by simp [Value.ownBlock], by simp [Value.ownBlock], ht5⟩
  clear q3 q4 d2 ha5 ht5 hb5
  clear w5
  case round =>
    obtain ⟨k, v, hk, rfl, q1, q2, hb, qa, qo, n1, n2, n3, n4, qt⟩ := hrel
    by_cases hlt : k < N
    · have d0 := HCELL.out wr k hb hlt
      have e2 : wr.cell? ⟨qg + 1, 2, none⟩ = some (.slice (some ⟨qg, 0, none⟩) N N) := by rw [q1.cell]; rfl
      have hnx := filledZ_next (F := tri V) hl hlt
      have htk : (zs.take (k + 1)).map (Value.int .i64) = (zs.take k).map (Value.int .i64) ++ [.int .i64 (zs.getD k 0)] := by
        rw [List.take_succ_eq_append_getElem (by omega), List.map_append, List.getD_eq_getElem?_getD, List.getElem?_eq_getElem (by omega)]
        rfl
      obtain ⟨z, hzz⟩ : ∃ z, zs.getD k 0 = z := ⟨_, rfl⟩
      rw [hzz] at d0 hnx htk
      clear hzz
      have HNX := Lib.hid hnx; clear hnx
      have HTK := Lib.hid htk; clear htk
      go_upto_region 7 with fail
      refine Lex3.wp_region_lex [] (fun u' => u'.cell? ⟨qg + 1, 2, none⟩ = some (.slice (some ⟨qg, 0, none⟩) N N)) (fun u n h => h) e2 (by kernel_rfl) (by kernel_rfl) ?_
      refine Lex3.run_free (v := ?_) (by rfl) (by rfl) (fun u => ?_) ?_; rotate_left; (go_simp; try with_reducible rfl); simp only [Act.put, List.setIfInBounds_toArray, List.set_cons_zero, List.set_cons_succ]
      refine Lex3.run_free (v := ?_) (by rfl) (by rfl) (fun u => ?_) ?_; rotate_left; (go_simp; try with_reducible rfl); simp only [Act.put, List.setIfInBounds_toArray, List.set_cons_zero, List.set_cons_succ]
      refine Lex3.run_free (v := ?_) (by rfl) (by rfl) (fun u => ?_) ?_; rotate_left; (go_simp; try with_reducible rfl); simp only [Act.put, List.setIfInBounds_toArray, List.set_cons_zero, List.set_cons_succ]
      refine Lex3.run_load (v := ?_) (by rfl) (by rfl) (fun u hu => ?_) ?_; rotate_left; (go_simp; try with_reducible rfl); simp only [Act.put, List.setIfInBounds_toArray, List.set_cons_zero, List.set_cons_succ]
      refine Lex3.run_free (v := ?_) (by rfl) (by rfl) (fun u => ?_) ?_; rotate_left; (go_simp; try with_reducible rfl); simp only [Act.put, List.setIfInBounds_toArray, List.set_cons_zero, List.set_cons_succ]
      refine Lex3.run_free (v := ?_) (by rfl) (by rfl) (fun u => ?_) ?_; rotate_left; (go_simp; try with_reducible rfl); simp only [Act.put, List.setIfInBounds_toArray, List.set_cons_zero, List.set_cons_succ]
      refine Lex3.run_free (v := ?_) (by rfl) (by rfl) (fun u => ?_) ?_; rotate_left; (go_simp; try with_reducible rfl); simp only [Act.put, List.setIfInBounds_toArray, List.set_cons_zero, List.set_cons_succ]
      refine Lex3.run_eff (by rfl) (by rfl) (fun n' K' hK => ?_)
      go_simp
      refine (asked_any S a t k v _ z V C _ (qa.drewN (1 + n')) (show World.ownsRow (wr.drewN (1 + n')) _ _ _ _ _ _ from qo) (qt.drewN (1 + n')) HC.out hS (by omega) n3 n4 hta).mono ?_
      rintro e w' ⟨v', rfl, qa', qo', hvo, hbb, hsz', hfr⟩
      have hfr1 : w'.heap[qg + 1]? = (wr.drewN (1 + n')).heap[qg + 1]? := hfr _ q1.lt (by omega) n1
      have hfr2 : w'.heap[qg]? = (wr.drewN (1 + n')).heap[qg]? := hfr _ q2.lt (by omega) n2
      have hfr3 : w'.heap[t]? = (wr.drewN (1 + n')).heap[t]? := hfr _ qt.lt hta n4
      have q1' : Blk w' (qg + 1) 135 _ := hfr1.trans q1
      have q2' : Blk w' qg 3 _ := hfr2.trans q2
      have qt' : Blk w' t 119 C := hfr3.trans qt
      have own : ∀ x, x < wr.heap.size → v.ownBlock ≠ some x → v'.ownBlock ≠ some x := fun x hx h e => by
        rcases hvo with q | ⟨gg, q, qq⟩
        · exact h (q ▸ e)
        · rw [q] at e; injection e with e; have : (wr.drewN (1 + n')).heap.size = wr.heap.size := rfl; omega
      have m1 := own _ q1.lt n1
      have m2 := own _ q2.lt n2
      have m3 := own _ qa.lt n3
      have m4 := own _ qt.lt n4
      have hb' : Below S w w' := (below_drewN hb (1 + n')).trans hbb
      have OWN := Lib.hid (And.intro m1 (And.intro m2 (And.intro m3 m4)))
      clear own m1 m2 m3 m4 hfr hfr1 hfr2 hfr3 hvo hbb hsz'
      refine hK _ _ (by rw [q1'.cell]; rfl) ?_
      clear hK K'
      try simp only [Act.put, List.setIfInBounds_toArray, List.set_cons_zero, List.set_cons_succ]
      refine Lex3.run_free (v := ?_) (by rfl) (by rfl) (fun u => ?_) ?_; rotate_left; (go_simp; try with_reducible rfl); simp only [Act.put, List.setIfInBounds_toArray, List.set_cons_zero, List.set_cons_succ]
      refine Lex3.run_eff (by rfl) (by rfl) (fun n'' K' hK => ?_)
      have f1 : (w'.drewN n'').frozen? ⟨qg, k, none⟩ = false := (q2'.drewN n'').frozen k
      have g1 : (w'.drewN n'').cell? ⟨qg, k, none⟩ = some (.int .i64 ((filledZ zs (tri V) N k).getD k 0)) := by
        rw [(q2'.drewN n'').cell k]
        have h4 : k < (filledZ zs (tri V) N k).length := by rw [filledZ_length hl hk]; exact hlt
        simp [h4]
      go_simp
      have q5 : Blk ((w'.drewN n'').setCell ⟨qg, k, none⟩ (.int .i64 (tri V z))) qg 3 ((filledZ zs (tri V) N (k + 1)).map (.int .i64)).toArray := by
        have h5 := Blk.set (q2'.drewN n'') k (.int .i64 (tri V z))
        rw [List.setIfInBounds_toArray, ← List.map_set] at h5
        rw [← HNX.out]
        exact h5
      have q6 := (q1'.drewN n'').far (p := ⟨qg, k, none⟩) (by simp) (.int .i64 (tri V z))
      have q7 := (qa'.drewN n'').far (p := ⟨qg, k, none⟩) (by show a ≠ qg; omega) (.int .i64 (tri V z))
      have q8 := (qt'.drewN n'').far (p := ⟨qg, k, none⟩) (by show t ≠ qg; omega) (.int .i64 (tri V z))
      have q9 : ((w'.drewN n'').setCell ⟨qg, k, none⟩ (.int .i64 (tri V z))).ownsRow S 3 1 v' (k + 1) ((zs.take k).map (.int .i64) ++ [.int .i64 z]) := ownsRow_setCell_other (show World.ownsRow (w'.drewN n'') _ _ _ _ _ _ from qo') OWN.out.2.1 _
      have b6 := (below_drewN hb' n'').setCell (p := ⟨qg, k, none⟩) hqS (.int .i64 (tri V z))
      refine hK _ _ (by rw [q6.cell]; rfl) ?_
      clear hK K'
      try simp only [Act.put, List.setIfInBounds_toArray, List.set_cons_zero, List.set_cons_succ]
      refine Lex3.run_nil (fun n3 => ?_)
      go_wp2_with fail
      go_roundw
      case rel => exact ⟨k + 1, v', by omega, by go_num, q6.drewN n3, q5.drewN n3, below_drewN b6 n3, q7.drewN n3, by rw [HTK.out]; exact q9, OWN.out.1, OWN.out.2.1, OWN.out.2.2.1, OWN.out.2.2.2, q8.drewN n3⟩
      case measure => simp [intOf]; omega
    · have hkn : k = N := by omega
      clear hk hlt
      subst hkn
      go_wp2_with fail
      go_ret
      rw [filledZ_all hl] at q2
      rw [List.take_of_length_le (by omega)] at qo
      refine ⟨qg + 1, qg, k, v, rfl, ?_, by rw [HQG.out]; omega, by rw [HQG.out]; exact Nat.le_refl _, qa, by rw [HN.out]; exact qo, n1, n2, qt, hb⟩
      have fit : fitsB W H = true := by
        rw [fitsB_iff, ← Int.natCast_mul, HN.out]
        omega
      have hlm : ((zs.map (tri V)).map (Value.int .i64)).toArray.size = k := by simp [hl]
      have := plane_mk (tp := 135) (te := 3) (W := W) (H := H) (c := k) (by rw [HN.out]; exact q1) q2 hlm (by omega) fit (by rw [HN.out]; exact Nat.le_refl _) (by unfold maxLen; omega)
      rw [HN.out, List.take_of_length_le (by simp [hl])] at this
      exact this
end Go.Proofs.Ytlbocfinjlkebaa.Scr
