/- Lay at samples of type int: another plane, or the plane itself, laid over a plane. -/
import Derived.Test.YtlbocfinjlkebaaPlanePIw
import Derived.Test.YtlbocfinjlkebaaLex
import Derived.Test.YtlbocfinjlkebaaLayL
import Derived.LaidEqlPtr
namespace Go.Proofs.Ytlbocfinjlkebaa.PI
open Go.RowKit

theorem infoP : (Try.prog.info? 135).map (·.size) = some 3 := by kernel_rfl
theorem size1 : (Try.prog.info? 3).map (·.size) = some 1 := by kernel_rfl

theorem info_some {P : Program} {t : TypeId} {n : Nat} (h : (P.info? t).map (·.size) = some n) : ∃ i, P.info? t = some i ∧ i.size = n := by
  obtain ⟨i, hi, hn⟩ := Option.map_eq_some_iff.1 h
  exact ⟨i, hi, hn⟩

/-- where nothing comes to the plane it stays -/
def Kept (w : World) (e : Ending) (w' : World) : Prop := e = .returned (.tuple #[]) ∧ w = w'

set_option maxRecDepth 100000 in
set_option maxHeartbeats 4000000 in
theorem lay_nil (b g W H c : Nat) (xs : List Value) (x y : Int) (w : World) (_hp : PA w b g W H c xs) :
    Calls Try.prog 31 #[.pointer (some ⟨b, 0, none⟩), .pointer none, .int .i64 x, .int .i64 y] w (Kept w) := by
  go_enter Try.func31, Try.ntmps31
  go_wp2
  refine bodyPost_ret (results_none rfl _ _ _) rfl ?_
  exact ⟨rfl, rfl⟩

set_option maxRecDepth 100000 in
set_option maxHeartbeats 4000000 in
theorem lay_no (b g W H c b' _g' W' H' _c' : Nat) (xs ys : List Value) (x y : Int) (w : World) (hp : PA w b g W H c xs) (ho : PA w b' _g' W' H' _c' ys) (hn : (W : Int) ≤ x ∨ (H : Int) ≤ y ∨ x ≤ -(W' : Int) ∨ y ≤ -(H' : Int)) :
    Calls Try.prog 31 #[.pointer (some ⟨b, 0, none⟩), .pointer (some ⟨b', 0, none⟩), .int .i64 x, .int .i64 y] w (Kept w) := by
  have c0 := hp.c0
  have c1 := hp.c1
  have d0 := ho.c0
  have d1 := ho.c1
  have hs := hp.side
  have hs' := ho.side
  by_cases h1 : (W : Int) ≤ x
  · go_enter Try.func31, Try.ntmps31
    go_wp2
    refine bodyPost_ret (results_none rfl _ _ _) rfl ?_
    exact ⟨rfl, rfl⟩
  by_cases h2 : (H : Int) ≤ y
  · go_enter Try.func31, Try.ntmps31
    go_wp2
    refine bodyPost_ret (results_none rfl _ _ _) rfl ?_
    exact ⟨rfl, rfl⟩
  by_cases h3 : x ≤ -(W' : Int)
  · go_enter Try.func31, Try.ntmps31
    go_wp2
    refine bodyPost_ret (results_none rfl _ _ _) rfl ?_
    exact ⟨rfl, rfl⟩
  have h4 : y ≤ -(H' : Int) := by omega
  go_enter Try.func31, Try.ntmps31
  go_wp2
  refine bodyPost_ret (results_none rfl _ _ _) rfl ?_
  exact ⟨rfl, rfl⟩

/-- what is laid over a plane: the samples so far, the other's sides, where they come from -/
def LaidI (w wr : World) (b g W H c : Nat) (zs : List Value) (b' W' H' : Nat) (ys : List Value) (gf cf : Nat) : Prop :=
  PA wr b g W H c zs ∧ wr.cell? ⟨b', 0, none⟩ = some (.int .i64 W') ∧ wr.cell? ⟨b', 1, none⟩ = some (.int .i64 H') ∧
    (∃ cur : Array Value, Blk wr gf 3 cur ∧ cur.size = cf ∧ cur.toList.take (W' * H') = ys ∧ W' * H' ≤ cf) ∧ w.grownBy wr (some g) ∧ gf ≠ g ∧ b' ≠ g
def LaidP (w : World) (b g W H c : Nat) (zs : List Value) (e : Ending) (w' : World) : Prop := e = .returned (.tuple #[]) ∧ PA w' b g W H c zs ∧ w.grownBy w' (some g)
set_option maxRecDepth 100000 in
set_option maxHeartbeats 4000000 in
theorem lay_other (b g W H c b' g' W' H' c' : Nat) (xs ys : List Value) (x y : Int) (w : World) (hp : PA w b g W H c xs) (ho : PA w b' g' W' H' c' ys) (hbb : b' ≠ b) (hgg : g' ≠ g) (h1 : ∀ u ∈ ys, u.oneCell' = true) (hx : x < W) (hy : y < H) (hx2 : -(W' : Int) < x) (hy2 : -(H' : Int) < y) :
    Calls Try.prog 31 #[.pointer (some ⟨b, 0, none⟩), .pointer (some ⟨b', 0, none⟩), .int .i64 x, .int .i64 y] w (LaidP w b g W H c (layL W H W' H' x y xs ys)) := by
  have hs := hp.side
  have hs' := ho.side
  have hsz := hp.size
  have hsz' := ho.size
  have c0 := hp.c0
  have c1 := hp.c1
  have d0 := ho.c0
  have d1 := ho.c1
  have d2 := ho.c2
  obtain ⟨l1, l2, l3, l4, l5, l6⟩ := lay_side hp.wide ho.wide hx hx2
  obtain ⟨m1, m2, m3, m4, m5, m6⟩ := lay_side hp.high ho.high hy hy2
  have HY : Hid (layL W H W' H' x y xs ys = layK W (layLeft x) (layRight x W W' - layLeft x) (layAt W' x y) ys (layLeft y) xs (layRight y H H' - layLeft y)) := rfl
  rw [HY.out]
  have HS : ∀ j, layAt W' x y j = ((j : Int) - y).toNat * W' + ((layLeft x : Int) - x).toNat := fun _ => rfl
  generalize layAt W' x y = sf at HS ⊢
  generalize hL : layLeft x = L at *
  generalize hR : layRight x W W' = R at *
  generalize hJ0 : layLeft y = J0 at *
  generalize hJ1 : layRight y H H' = J1 at *
  clear HY hL hR hJ0 hJ1
  have HS := Lib.hid HS
  obtain ⟨j0, hj0, hj1⟩ := info_some infoP
  have hq := run_eql_ptr_other (P := Try.prog) w (tp := 51) (a := ⟨b', 0, none⟩) (b := ⟨b, 0, none⟩) Try.underlying51 hj0 (by rw [hj1]; decide) (by intro e; injection e with e; exact hbb e) ho.blk hp.blk
  go_enter Try.func31, Try.ntmps31
  go_upto_region 4 with fail
  go_cut [8, 9, 10] from 13 (fun s8 s9 s10 wc => ∃ gf cf nf, s8 = .slice (some ⟨gf, 0, none⟩) nf cf ∧ nf = W' * H' ∧ s9 = .int .i64 L ∧ s10 = .int .i64 R ∧ LaidI w wc b g W H c xs b' W' H' ys gf cf)
  case first =>
    go_wp2
    go_quiet (fail)
    go_wp2
    go_meet
    refine ⟨g', c', W' * H', rfl, rfl, rfl, rfl, hp.drewN _, d0, d1, ?_, grown_drewN (World.grownBy.refl w _) _, hgg, ?_⟩
    · obtain ⟨cur, k1, k2, k3⟩ := ho.row
      exact ⟨cur, k1, k2, k3, ho.cap⟩
    · obtain ⟨cur, k1, _⟩ := hp.row
      exact ho.blk.ne k1 (by decide)
  case rest =>
    obtain ⟨gf, cf, nf, rfl, hnf, rfl, rfl, hI⟩ := hcut
    have HNF := Lib.hid hnf; clear hnf
    go_wp2
    go_loopw [11] (fun i wr => ∃ j k : Nat, k ≤ J1 - J0 ∧ j = J0 + k ∧ i = .int .i64 j ∧ LaidI w wr b g W H c (layK W L (R - L) sf ys J0 xs k) b' W' H' ys gf cf) (fun i _ => J1 - (intOf i).toNat)
    case atStart => exact ⟨J0, 0, by omega, rfl, rfl, hI⟩
    case round =>
      obtain ⟨j, k, hk, hj, rfl, hI⟩ := hrel
      obtain ⟨qp, q0, q1, ⟨cur, r1, r2, r3, r4⟩, q2, q3, q4⟩ := hI
      have c0 := qp.c0
      have c1 := qp.c1
      have c2 := qp.c2
      by_cases hlt : j < J1
      · obtain ⟨q, hq1⟩ : ∃ q : Nat, (j : Int) - y = (q : Int) := Int.eq_ofNat_of_zero_le (by omega)
        obtain ⟨e, he⟩ : ∃ e : Nat, (L : Int) - x = (e : Int) := Int.eq_ofNat_of_zero_le (by omega)
        have he2 : (R : Int) - x = ((e + (R - L) : Nat) : Int) := by omega
        have hqH : q + 1 ≤ H' := by omega
        have heW : e + (R - L) ≤ W' := by omega
        have hsj : sf j = q * W' + e := by rw [HS.out, hq1, he]; simp
        obtain ⟨m, hm⟩ : ∃ m, j * W = m := ⟨_, rfl⟩
        have hm2 : (j + 1) * W ≤ H * W := Nat.mul_le_mul_right W (by omega)
        rw [Nat.add_mul, Nat.one_mul, hm, Nat.mul_comm H W] at hm2
        have hmi : (j : Int) * (W : Int) = (m : Int) := by rw [← hm, Int.natCast_mul]
        obtain ⟨m', hm'⟩ : ∃ m', q * W' = m' := ⟨_, rfl⟩
        have hm2' : (q + 1) * W' ≤ H' * W' := Nat.mul_le_mul_right W' hqH
        rw [Nat.add_mul, Nat.one_mul, hm', Nat.mul_comm H' W'] at hm2'
        have hmi' : (q : Int) * (W' : Int) = (m' : Int) := by rw [← hm', Int.natCast_mul]
        rw [hm'] at hsj
        have hlz : (layK W L (R - L) sf ys J0 xs k).length = W * H := qp.len
        have hly : ys.length = W' * H' := by rw [← r3, List.length_take]; simp; omega
        obtain ⟨cs, hcs⟩ : ∃ cs, cs = (ys.drop (m' + e)).take (R - L) := ⟨_, rfl⟩
        have hcl : cs.length = R - L := by rw [hcs, List.length_take, List.length_drop, hly]; omega
        have hstep : layK W L (R - L) sf ys J0 xs (k + 1) = splice (layK W L (R - L) sf ys J0 xs k) (m + L) cs := by rw [layK, ← hj, hm, hsj, ← hcs]
        obtain ⟨cur0, t1, t2, t3⟩ := qp.lay (m + L) cs (by rw [hcl]; omega)
        have hcap := qp.cap
        have hsrc : ∀ i v, cs[i]? = some v → wr.cell? ((⟨gf, m' + e, none⟩ : Addr).add i) = some v := by
          intro i v hv
          have e1 : (⟨gf, m' + e, none⟩ : Addr).add i = ⟨gf, m' + e + i, none⟩ := by unfold Addr.add; split <;> simp_all
          rw [hcs, List.getElem?_take] at hv
          split at hv
          · rw [List.getElem?_drop, ← r3, List.getElem?_take, if_pos (by omega)] at hv
            rw [e1, r1.cell]
            simpa using hv
          · cases hv
        have hone : ∀ v ∈ cs, v.oneCell' = true := fun v hv => h1 v (by rw [hcs] at hv; exact List.mem_of_mem_drop (List.mem_of_mem_take hv))
        have HST := Lib.hid hstep; clear hstep
        have HJ := Lib.hid hj
        have hr3 := Lib.hid r3
        clear hj hm hm' hsj hcs hlz hly r3
        have HCL := Lib.hid hcl; clear hcl
        have HR2 := Lib.hid r2; clear r2
        have HT2 := Lib.hid t2; clear t2
        obtain ⟨N, hN⟩ : ∃ N, W * H = N := ⟨_, rfl⟩
        rw [hN] at hm2 hcap c2 hsz
        have HN := Lib.hid hN; clear hN
        rw [← HNF.out] at hm2' r4 hsz'
        have hb0 : (R : Int) - x ≤ ((e + (R - L) : Nat) : Int) := by omega
        have w1 : IntKind.i64.wrap ((m : Int) + (L : Int)) = (m : Int) + (L : Int) := IntWalk.i64_in _ (by omega)
        have w2 : IntKind.i64.wrap ((m : Int) + (R : Int)) = (m : Int) + (R : Int) := IntWalk.i64_in _ (by omega)
        have w3 : IntKind.i64.wrap (m : Int) = (m : Int) := IntWalk.i64_in _ (by omega)
        have w4 : ((m : Int) + (L : Int)).toNat = m + L := by omega
        have w5 : ((m : Int) + (R : Int)).toNat = m + R := by omega
        have w6 : (m : Int) + (L : Int) ≤ (m : Int) + (R : Int) := by omega
        have w7 : (m : Int) + (R : Int) ≤ (c : Int) := by omega
        have w8 : (0 : Int) ≤ (m : Int) + (L : Int) := by omega
        have w9 : ¬ cf = m' := by omega
        have w10 : ¬ c = m + L := by omega
        obtain ⟨e2, he3⟩ : ∃ e2 : Nat, e + (R - L) = e2 := ⟨_, rfl⟩
        rw [he3] at he2 hb0 heW
        have w11 : (e : Int) ≤ (e2 : Int) := by omega
        have w12 : (e2 : Int) ≤ ((cf - m' : Nat) : Int) := by omega
        have w13 : ¬ cf - m' = e := by omega
        have w14 : e2 ≤ cf - m' := by omega
        have w17 : IntKind.i64.wrap (e : Int) = (e : Int) := IntWalk.i64_in _ (by omega)
        have w18 : IntKind.i64.wrap (e2 : Int) = (e2 : Int) := IntWalk.i64_in _ (by omega)
        have w15 : e ≤ e2 := by omega
        have w16 : (e2 : Int) ≤ (cf : Int) - (m' : Int) := by omega
        have HE3 := Lib.hid he3; clear he3
        go_wp2
        go_quiet (fail)
        go_wp2
        refine Lex.wp_region_lex [] (by kernel_rfl) (by kernel_rfl) ?_
        repeat (first | (refine Lex.run_free (v := ?_) (by rfl) (by rfl) (fun u => ?_) ?_; rotate_left; (go_simp; try with_reducible rfl); simp only [Act.put, List.setIfInBounds_toArray, List.set_cons_zero, List.set_cons_succ]) | (refine Lex.run_load (v := ?_) (by rfl) (by rfl) (fun n => ?_) ?_; rotate_left; (go_simp; try with_reducible rfl); simp only [Act.put, List.setIfInBounds_toArray, List.set_cons_zero, List.set_cons_succ]))
        refine Lex.run_eff (by rfl) (by rfl) (fun n' K' hK => ?_)
        refine wp_copy_row (.tmp 118) (.tmp 126) 50 50 rfl 3 Try.underlying50 size1 g (m + L) _ _ ⟨gf, m' + e, none⟩ _ _ (by rfl) (by rfl) cur0 3 (show _ = _ from t1) cs (by have := HE3.out; rw [HCL.out]; show R - L = min (e2 - e) (m + R - (m + L)); omega) (show ∀ i v, _ → World.cell? _ _ = _ from hsrc) (by rw [HCL.out, HT2.out]; omega) hone ?_
        refine hK _ _ ?_
        clear hK K'
        simp only [Act.put, List.setIfInBounds_toArray, List.set_cons_zero, List.set_cons_succ]
        refine Lex.run_nil (fun n3 => ?_)
        have hjk : j + 1 = J0 + (k + 1) := by rw [HJ.out]; rfl
        have hjJ : k + 1 ≤ J1 - J0 := by omega
        have hgoal : LaidI w (((wr.drewN (nq + 1 + n')).setRow g (cur0.toList.take (m + L) ++ (cs ++ cur0.toList.drop (m + L + cs.length))).toArray).drewN n3) b g W H c (layK W L (R - L) sf ys J0 xs (k + 1)) b' W' H' ys gf cf := by
          refine ⟨by rw [HST.out]; exact t3.keep rfl rfl, ?_, ?_, ⟨cur, (setRow_other _ g gf _ q3).trans r1, HR2.out, hr3.out, by rw [← HNF.out]; exact r4⟩, grown_drewN (grown_setRow (grown_drewN q2 _) _) _, q3, q4⟩
          · exact (World.cell?_of_block (a := ⟨b', 0, none⟩) (setRow_other _ g b' _ q4)).trans q0
          · exact (World.cell?_of_block (a := ⟨b', 1, none⟩) (setRow_other _ g b' _ q4)).trans q1
        go_wp2
        go_roundw
        case rel => exact ⟨j + 1, k + 1, hjJ, hjk, by go_num, hgoal⟩
        case measure => simp [intOf]; omega
      · have hjJ : j = J1 := by omega
        have hkJ : k = J1 - J0 := by omega
        subst hkJ
        clear hj
        subst hjJ
        go_wp2
        go_quiet (fail)
        go_wp2
        refine bodyPost_ret (results_none rfl _ _ _) rfl ?_
        exact ⟨rfl, qp.drewN _, grown_drewN q2 _⟩

set_option maxRecDepth 100000 in
set_option maxHeartbeats 4000000 in
theorem lay_self (b g W H c : Nat) (xs : List Value) (x y : Int) (w : World) (hp : PA w b g W H c xs) (h1 : ∀ u ∈ xs, u.oneCell' = true) (hx : x < W) (hy : y < H) (hx2 : -(W : Int) < x) (hy2 : -(H : Int) < y) :
    Calls Try.prog 31 #[.pointer (some ⟨b, 0, none⟩), .pointer (some ⟨b, 0, none⟩), .int .i64 x, .int .i64 y] w (LaidP w b g W H c (layL W H W H x y xs xs)) := by
  have hs := hp.side
  have hsz := hp.size
  have hsz' := hp.size
  have c0 := hp.c0
  have c1 := hp.c1
  have d0 := hp.c0
  have d1 := hp.c1
  have d2 := hp.c2
  obtain ⟨l1, l2, l3, l4, l5, l6⟩ := lay_side hp.wide hp.wide hx hx2
  obtain ⟨m1, m2, m3, m4, m5, m6⟩ := lay_side hp.high hp.high hy hy2
  have HY : Hid (layL W H W H x y xs xs = layK W (layLeft x) (layRight x W W - layLeft x) (layAt W x y) xs (layLeft y) xs (layRight y H H - layLeft y)) := rfl
  rw [HY.out]
  have HS : ∀ j, layAt W x y j = ((j : Int) - y).toNat * W + ((layLeft x : Int) - x).toNat := fun _ => rfl
  generalize layAt W x y = sf at HS ⊢
  generalize hL : layLeft x = L at *
  generalize hR : layRight x W W = R at *
  generalize hJ0 : layLeft y = J0 at *
  generalize hJ1 : layRight y H H = J1 at *
  clear HY hL hR hJ0 hJ1
  have HS := Lib.hid HS
  have hq := fun u => run_eql_ptr_same (P := Try.prog) u (tp := 51) ⟨b, 0, none⟩ Try.underlying51 (info_some infoP).choose_spec.1
  go_enter Try.func31, Try.ntmps31
  go_upto_region 4 with (go_at_call 32; refine (pix_any b g W H c xs _ hp h1).mono ?_; rintro e w1 ⟨v, rfl, ⟨g1, k1, cur1, rfl, e1, e2, e3, e4, e5, e6⟩, hb1⟩)
  have hp1 := hp.below hb1
  have f0 := hp1.c0
  have f1 := hp1.c1
  have e3 := Lib.hid e3
  have e2 := Lib.hid e2
  go_cut [8, 9, 10] from 13 (fun s8 s9 s10 wc => ∃ gf cf nf, s8 = .slice (some ⟨gf, 0, none⟩) nf cf ∧ nf = W * H ∧ s9 = .int .i64 L ∧ s10 = .int .i64 R ∧ LaidI w wc b g W H c xs b W H xs gf cf)
  case first =>
    go_quiet (fail)
    go_wp2
    go_meet
    have hlt := hp.glt
    refine ⟨g1, k1, W * H, rfl, rfl, rfl, rfl, hp1.drewN _, f0, f1, ⟨cur1, e1, e2.out, e3.out, e4⟩, grown_drewN (grown_of_below hb1 _) _, by omega, hp.ne⟩
  case rest =>
    obtain ⟨gf, cf, nf, rfl, hnf, rfl, rfl, hI⟩ := hcut
    have HNF := Lib.hid hnf; clear hnf
    go_wp2
    go_loopw [11] (fun i wr => ∃ j k : Nat, k ≤ J1 - J0 ∧ j = J0 + k ∧ i = .int .i64 j ∧ LaidI w wr b g W H c (layK W L (R - L) sf xs J0 xs k) b W H xs gf cf) (fun i _ => J1 - (intOf i).toNat)
    case atStart => exact ⟨J0, 0, by omega, rfl, rfl, hI⟩
    case round =>
      obtain ⟨j, k, hk, hj, rfl, hI⟩ := hrel
      obtain ⟨qp, q0, q1, ⟨cur, r1, r2, r3, r4⟩, q2, q3, q4⟩ := hI
      have c0 := qp.c0
      have c1 := qp.c1
      have c2 := qp.c2
      by_cases hlt : j < J1
      · obtain ⟨q, hq1⟩ : ∃ q : Nat, (j : Int) - y = (q : Int) := Int.eq_ofNat_of_zero_le (by omega)
        obtain ⟨e, he⟩ : ∃ e : Nat, (L : Int) - x = (e : Int) := Int.eq_ofNat_of_zero_le (by omega)
        have he2 : (R : Int) - x = ((e + (R - L) : Nat) : Int) := by omega
        have hqH : q + 1 ≤ H := by omega
        have heW : e + (R - L) ≤ W := by omega
        have hsj : sf j = q * W + e := by rw [HS.out, hq1, he]; simp
        obtain ⟨m, hm⟩ : ∃ m, j * W = m := ⟨_, rfl⟩
        have hm2 : (j + 1) * W ≤ H * W := Nat.mul_le_mul_right W (by omega)
        rw [Nat.add_mul, Nat.one_mul, hm, Nat.mul_comm H W] at hm2
        have hmi : (j : Int) * (W : Int) = (m : Int) := by rw [← hm, Int.natCast_mul]
        obtain ⟨m', hm'⟩ : ∃ m', q * W = m' := ⟨_, rfl⟩
        have hm2' : (q + 1) * W ≤ H * W := Nat.mul_le_mul_right W hqH
        rw [Nat.add_mul, Nat.one_mul, hm', Nat.mul_comm H W] at hm2'
        have hmi' : (q : Int) * (W : Int) = (m' : Int) := by rw [← hm', Int.natCast_mul]
        rw [hm'] at hsj
        have hlz : (layK W L (R - L) sf xs J0 xs k).length = W * H := qp.len
        have hly : xs.length = W * H := by rw [← r3, List.length_take]; simp; omega
        obtain ⟨cs, hcs⟩ : ∃ cs, cs = (xs.drop (m' + e)).take (R - L) := ⟨_, rfl⟩
        have hcl : cs.length = R - L := by rw [hcs, List.length_take, List.length_drop, hly]; omega
        have hstep : layK W L (R - L) sf xs J0 xs (k + 1) = splice (layK W L (R - L) sf xs J0 xs k) (m + L) cs := by rw [layK, ← hj, hm, hsj, ← hcs]
        obtain ⟨cur0, t1, t2, t3⟩ := qp.lay (m + L) cs (by rw [hcl]; omega)
        have hcap := qp.cap
        have hsrc : ∀ i v, cs[i]? = some v → wr.cell? ((⟨gf, m' + e, none⟩ : Addr).add i) = some v := by
          intro i v hv
          have e1 : (⟨gf, m' + e, none⟩ : Addr).add i = ⟨gf, m' + e + i, none⟩ := by unfold Addr.add; split <;> simp_all
          rw [hcs, List.getElem?_take] at hv
          split at hv
          · rw [List.getElem?_drop, ← r3, List.getElem?_take, if_pos (by omega)] at hv
            rw [e1, r1.cell]
            simpa using hv
          · cases hv
        have hone : ∀ v ∈ cs, v.oneCell' = true := fun v hv => h1 v (by rw [hcs] at hv; exact List.mem_of_mem_drop (List.mem_of_mem_take hv))
        have HST := Lib.hid hstep; clear hstep
        have HJ := Lib.hid hj
        have hr3 := Lib.hid r3
        clear hj hm hm' hsj hcs hlz hly r3
        have HCL := Lib.hid hcl; clear hcl
        have HR2 := Lib.hid r2; clear r2
        have HT2 := Lib.hid t2; clear t2
        obtain ⟨N, hN⟩ : ∃ N, W * H = N := ⟨_, rfl⟩
        rw [hN] at hm2 hcap c2 hsz
        have HN := Lib.hid hN; clear hN
        rw [← HNF.out] at hm2' r4 hsz'
        have hb0 : (R : Int) - x ≤ ((e + (R - L) : Nat) : Int) := by omega
        have w1 : IntKind.i64.wrap ((m : Int) + (L : Int)) = (m : Int) + (L : Int) := IntWalk.i64_in _ (by omega)
        have w2 : IntKind.i64.wrap ((m : Int) + (R : Int)) = (m : Int) + (R : Int) := IntWalk.i64_in _ (by omega)
        have w3 : IntKind.i64.wrap (m : Int) = (m : Int) := IntWalk.i64_in _ (by omega)
        have w4 : ((m : Int) + (L : Int)).toNat = m + L := by omega
        have w5 : ((m : Int) + (R : Int)).toNat = m + R := by omega
        have w6 : (m : Int) + (L : Int) ≤ (m : Int) + (R : Int) := by omega
        have w7 : (m : Int) + (R : Int) ≤ (c : Int) := by omega
        have w8 : (0 : Int) ≤ (m : Int) + (L : Int) := by omega
        have w9 : ¬ cf = m' := by omega
        have w10 : ¬ c = m + L := by omega
        obtain ⟨e2, he3⟩ : ∃ e2 : Nat, e + (R - L) = e2 := ⟨_, rfl⟩
        rw [he3] at he2 hb0 heW
        have w11 : (e : Int) ≤ (e2 : Int) := by omega
        have w12 : (e2 : Int) ≤ ((cf - m' : Nat) : Int) := by omega
        have w13 : ¬ cf - m' = e := by omega
        have w14 : e2 ≤ cf - m' := by omega
        have w17 : IntKind.i64.wrap (e : Int) = (e : Int) := IntWalk.i64_in _ (by omega)
        have w18 : IntKind.i64.wrap (e2 : Int) = (e2 : Int) := IntWalk.i64_in _ (by omega)
        have w15 : e ≤ e2 := by omega
        have w16 : (e2 : Int) ≤ (cf : Int) - (m' : Int) := by omega
        have HE3 := Lib.hid he3; clear he3
        go_wp2
        go_quiet (fail)
        go_wp2
        refine Lex.wp_region_lex [] (by kernel_rfl) (by kernel_rfl) ?_
        repeat (first | (refine Lex.run_free (v := ?_) (by rfl) (by rfl) (fun u => ?_) ?_; rotate_left; (go_simp; try with_reducible rfl); simp only [Act.put, List.setIfInBounds_toArray, List.set_cons_zero, List.set_cons_succ]) | (refine Lex.run_load (v := ?_) (by rfl) (by rfl) (fun n => ?_) ?_; rotate_left; (go_simp; try with_reducible rfl); simp only [Act.put, List.setIfInBounds_toArray, List.set_cons_zero, List.set_cons_succ]))
        refine Lex.run_eff (by rfl) (by rfl) (fun n' K' hK => ?_)
        refine wp_copy_row (.tmp 118) (.tmp 126) 50 50 rfl 3 Try.underlying50 size1 g (m + L) _ _ ⟨gf, m' + e, none⟩ _ _ (by rfl) (by rfl) cur0 3 (show _ = _ from t1) cs (by have := HE3.out; rw [HCL.out]; show R - L = min (e2 - e) (m + R - (m + L)); omega) (show ∀ i v, _ → World.cell? _ _ = _ from hsrc) (by rw [HCL.out, HT2.out]; omega) hone ?_
        refine hK _ _ ?_
        clear hK K'
        simp only [Act.put, List.setIfInBounds_toArray, List.set_cons_zero, List.set_cons_succ]
        refine Lex.run_nil (fun n3 => ?_)
        have hjk : j + 1 = J0 + (k + 1) := by rw [HJ.out]; rfl
        have hjJ : k + 1 ≤ J1 - J0 := by omega
        have hgoal : LaidI w (((wr.drewN (nq + 1 + n')).setRow g (cur0.toList.take (m + L) ++ (cs ++ cur0.toList.drop (m + L + cs.length))).toArray).drewN n3) b g W H c (layK W L (R - L) sf xs J0 xs (k + 1)) b W H xs gf cf := by
          refine ⟨by rw [HST.out]; exact t3.keep rfl rfl, ?_, ?_, ⟨cur, (setRow_other _ g gf _ q3).trans r1, HR2.out, hr3.out, by rw [← HNF.out]; exact r4⟩, grown_drewN (grown_setRow (grown_drewN q2 _) _) _, q3, q4⟩
          · exact (World.cell?_of_block (a := ⟨b, 0, none⟩) (setRow_other _ g b _ q4)).trans q0
          · exact (World.cell?_of_block (a := ⟨b, 1, none⟩) (setRow_other _ g b _ q4)).trans q1
        go_wp2
        go_roundw
        case rel => exact ⟨j + 1, k + 1, hjJ, hjk, by go_num, hgoal⟩
        case measure => simp [intOf]; omega
      · have hjJ : j = J1 := by omega
        have hkJ : k = J1 - J0 := by omega
        subst hkJ
        clear hj
        subst hjJ
        go_wp2
        go_quiet (fail)
        go_wp2
        refine bodyPost_ret (results_none rfl _ _ _) rfl ?_
        exact ⟨rfl, qp.drewN _, grown_drewN q2 _⟩

end Go.Proofs.Ytlbocfinjlkebaa.PI
