/- SamplingBetween: no sample beyond those that it is made of: the walk. -/
import Derived.Test.YtlbocfinjlkebaaBetE
namespace Go.Proofs.Ytlbocfinjlkebaa.Samp
open Go.RowKit

set_option maxRecDepth 100000 in
set_option maxHeartbeats 4000000 in
theorem lawBet_none (wd : Int) (A : Option Addr) (n c : Nat) (x y : Int) (w : World) (hn : n ≤ maxLen) (hs : shaped wd n = false) (hx1 : -9223372036854775808 ≤ x) (hx2 : x ≤ 9223372036854775807) (hy1 : -9223372036854775808 ≤ y) (hy2 : y ≤ 9223372036854775807) :
    Calls Try.prog 12 #[.agg #[.int .i64 wd, .slice A n c], .int .i64 x, .int .i64 y] w (TrueB w) := by
  have bx := Blk.new w 30 #[.int .i64 wd, .slice A n c]
  go_enter Try.func12, Try.ntmps12
  go_wp2_with fail
  refine (alive_any _).mono ?_
  rintro e w1 ⟨rfl, b1⟩
  have bx1 := bx.kept b1
  have x0 : w1.cell? ⟨w.heap.size, 0, none⟩ = some (.int .i64 wd) := by rw [bx1.cell]; rfl
  have x1 : w1.cell? ⟨w.heap.size, 1, none⟩ = some (.slice A n c) := by rw [bx1.cell]; rfl
  have a1 : Below w.heap.size w w1 := below_then ((Below.refl _ _).alloc (Nat.le_refl _) _) b1
  go_wp2_with fail
  refine (factor_any x _ hx1 hx2).mono ?_
  rintro e w' ⟨rfl, rfl⟩
  go_wp2_with fail
  refine (factor_any y _ hy1 hy2).mono ?_
  rintro e w' ⟨rfl, rfl⟩
  go_wp2_with fail
  refine (whole_no wd A n c _ hn hs).mono ?_
  rintro e w2 ⟨rfl, b2⟩
  go_wp2_with fail
  go_ret
  exact ⟨rfl, below_then a1 b2⟩

set_option maxRecDepth 100000 in
set_option maxHeartbeats 8000000 in
theorem lawBet_some (W : Nat) (A : Option Addr) (n c : Nat) (zs : List Int) (x y : Int) (w : World) (hnc : n ≤ c) (hc : c ≤ maxLen) (hsl : Sl w A n (zs.map (.int .u8))) (hz : Bytes zs) (h1 : 1 ≤ W) (h2 : W ≤ n) (h3 : n ≤ 67108864)
    (hx1 : -9223372036854775808 ≤ x) (hx2 : x ≤ 9223372036854775807) (hy1 : -9223372036854775808 ≤ y) (hy2 : y ≤ 9223372036854775807) :
    Calls Try.prog 12 #[.agg #[.int .i64 W, .slice A n c], .int .i64 x, .int .i64 y] w (TrueB w) := by
  have hWH : W * (n / W) ≤ 67108864 := Nat.le_trans (Nat.mul_div_le n W) h3
  obtain ⟨H, hH⟩ : ∃ H, n / W = H := ⟨_, rfl⟩
  have hH1 : 1 ≤ H := by rw [← hH]; exact (Nat.le_div_iff_mul_le (by omega)).2 (by omega)
  have hbH : H ≤ 67108864 := by rw [← hH]; exact Nat.le_trans (Nat.div_le_self n W) h3
  rw [hH] at hWH
  obtain ⟨fx, hfx⟩ : ∃ fx : Nat, x % 4 + 1 = (fx : Int) := ⟨(x % 4 + 1).toNat, by omega⟩
  obtain ⟨fy, hfy⟩ : ∃ fy : Nat, y % 4 + 1 = (fy : Int) := ⟨(y % 4 + 1).toNat, by omega⟩
  have e1 : 1 ≤ fx ∧ fx ≤ 4 := by omega
  have e2 : 1 ≤ fy ∧ fy ≤ 4 := by omega
  obtain ⟨P, hP⟩ : ∃ P, fx * W = P := ⟨_, rfl⟩
  obtain ⟨Q, hQ⟩ : ∃ Q, fy * H = Q := ⟨_, rfl⟩
  have hPi : (fx : Int) * (W : Int) = (P : Int) := by rw [← hP, Int.natCast_mul]
  have hQi : (fy : Int) * (H : Int) = (Q : Int) := by rw [← hQ, Int.natCast_mul]
  have P1 : 1 ≤ P := by rw [← hP]; exact Nat.mul_le_mul e1.1 h1
  have Q1 : 1 ≤ Q := by rw [← hQ]; exact Nat.mul_le_mul e2.1 hH1
  have bP : P ≤ 4 * 67108864 := by rw [← hP]; exact Nat.mul_le_mul e1.2 (by omega)
  have bQ : Q ≤ 4 * 67108864 := by rw [← hQ]; exact Nat.mul_le_mul e2.2 (by omega)
  have wP : IntKind.i64.wrap (P : Int) = (P : Int) := IntWalk.i64_in _ (by omega)
  have wQ : IntKind.i64.wrap (Q : Int) = (Q : Int) := IntWalk.i64_in _ (by omega)
  have HFX := Lib.hid hfx; clear hfx
  have HFY := Lib.hid hfy; clear hfy
  have HP := Lib.hid hP; clear hP
  have HQ := Lib.hid hQ; clear hQ
  have HH := Lib.hid hH; clear hH
  have HZT := Lib.hid (hz.take (W * H))
  have bx := Blk.new w 30 #[.int .i64 W, .slice A n c]
  go_enter Try.func12, Try.ntmps12
  go_wp2_with fail
  refine (alive_any _).mono ?_
  rintro e w1 ⟨rfl, b1⟩
  have bx1 := bx.kept b1
  have x0 : w1.cell? ⟨w.heap.size, 0, none⟩ = some (.int .i64 W) := by rw [bx1.cell]; rfl
  have x1 : w1.cell? ⟨w.heap.size, 1, none⟩ = some (.slice A n c) := by rw [bx1.cell]; rfl
  have a1 : Below w.heap.size w w1 := below_then ((Below.refl _ _).alloc (Nat.le_refl _) _) b1
  have hsl1 := (hsl.alloc (.cells #[.int .i64 W, .slice A n c] 30)).below b1
  go_wp2_with fail
  refine (factor_any x _ hx1 hx2).mono ?_
  rintro e w' ⟨rfl, rfl⟩
  rw [HFX.out]
  go_wp2_with fail
  refine (factor_any y _ hy1 hy2).mono ?_
  rintro e w' ⟨rfl, rfl⟩
  rw [HFY.out]
  go_wp2_with fail
  refine (whole_yes W A n c zs _ hnc hc hsl1 h1 h2 h3).mono ?_
  rintro e w2 ⟨p, g, cp, rfl, hp2, k1, k2, b2⟩
  simp only [HH.out] at hp2 ⊢
  generalize zs.take (W * H) = ys at *
  have hyl : ys.length = W * H := by simpa using hp2.len
  have a2 := below_then a1 b2
  by_cases hsm : P * Q ≤ 4000000
  · have dsm : decide (P * Q ≤ 4000000) = true := by simpa using hsm
    have he : upE fx fy P Q W H = 0 := by
      unfold upE
      rw [if_neg (by omega), if_neg]
      rintro (h | h | h | h | h)
      · omega
      · omega
      · rw [hPi] at h; omega
      · rw [hQi] at h; omega
      · rw [← Int.natCast_mul] at h; omega
    have HE := Lib.hid he; clear he
    have DS := Lib.hid dsm; clear dsm
    have bP2 : P ≤ 4000000 := Nat.le_trans (Nat.le_mul_of_pos_right P Q1) hsm
    have bQ2 : Q ≤ 4000000 := Nat.le_trans (Nat.le_mul_of_pos_left Q P1) hsm
    have HS := Lib.hid hsm; clear hsm
    have sw := dnS_below e1.1 h1
    have sh := dnS_below e2.1 hH1
    have sw2 := dnS_le (W := W) e1.1
    have sh2 := dnS_le (W := H) e2.1
    have sw3 := dnS_pos h1 e1.1
    have sh3 := dnS_pos hH1 e2.1
    obtain ⟨wide, hwd⟩ : ∃ wide, dnS W fx = wide := ⟨_, rfl⟩
    obtain ⟨high, hhg⟩ : ∃ high, dnS H fy = high := ⟨_, rfl⟩
    rw [hwd] at sw sw2 sw3
    rw [hhg] at sh sh2 sh3
    obtain ⟨l, hll⟩ : ∃ l, gridL P (smV ys W H fx fy) (Q * P) = l := ⟨_, rfl⟩
    have hlen : l.length = Q * P := by rw [← hll, gridL_length]
    obtain ⟨ds, hdd⟩ : ∃ ds, gridL wide (dnV ys W H fx fy) (high * wide) = ds := ⟨_, rfl⟩
    have hdl : ds.length = high * wide := by rw [← hdd, gridL_length]
    obtain ⟨tx, htx⟩ : ∃ tx, fx % 2 = tx := ⟨_, rfl⟩
    obtain ⟨ty, hty⟩ : ∃ ty, fy % 2 = ty := ⟨_, rfl⟩
    obtain ⟨hx2, hhx⟩ : ∃ h, fx / 2 = h := ⟨_, rfl⟩
    obtain ⟨hy2, hhy⟩ : ∃ h, fy / 2 = h := ⟨_, rfl⟩
    have ftx : (fx : Int).tmod 2 = (tx : Int) := by rw [Int.tmod_eq_emod_of_nonneg (by omega), ← htx]; omega
    have fty : (fy : Int).tmod 2 = (ty : Int) := by rw [Int.tmod_eq_emod_of_nonneg (by omega), ← hty]; omega
    have fhx : (fx : Int).tdiv 2 = (hx2 : Int) := by rw [Int.tdiv_eq_ediv_of_nonneg (by omega), ← hhx]; omega
    have fhy : (fy : Int).tdiv 2 = (hy2 : Int) := by rw [Int.tdiv_eq_ediv_of_nonneg (by omega), ← hhy]; omega
    have ftx' : (fx : Int) % 2 = (tx : Int) := by rw [← htx]; omega
    have fty' : (fy : Int) % 2 = (ty : Int) := by rw [← hty]; omega
    have fhx' : (fx : Int) / 2 = (hx2 : Int) := by rw [← hhx]; omega
    have fhy' : (fy : Int) / 2 = (hy2 : Int) := by rw [← hhy]; omega
    have bx1 : tx ≤ 1 := by omega
    have bx2 : ty ≤ 1 := by omega
    have bx3 : hx2 ≤ 2 := by omega
    have bx4 : hy2 ≤ 2 := by omega
    obtain ⟨F1, hF1'⟩ : ∃ F1, 2 * fx = F1 := ⟨_, rfl⟩
    obtain ⟨F2, hF2'⟩ : ∃ F2, 2 * fy = F2 := ⟨_, rfl⟩
    have hF1 : 2 * (fx : Int) = (F1 : Int) := by omega
    have hF2 : 2 * (fy : Int) = (F2 : Int) := by omega
    have bF : 1 ≤ F1 ∧ F1 ≤ 8 ∧ 1 ≤ F2 ∧ F2 ≤ 8 := by omega
    clear hF1' hF2'
    have HTX := Lib.hid htx; clear htx
    have HTY := Lib.hid hty; clear hty
    have HHX := Lib.hid hhx; clear hhx
    have HHY := Lib.hid hhy; clear hhy
    have HWD := Lib.hid hwd; clear hwd
    have HHG := Lib.hid hhg; clear hhg
    have HLL := Lib.hid hll; clear hll
    have HLEN := Lib.hid hlen; clear hlen
    have HDD := Lib.hid hdd; clear hdd
    have HDL := Lib.hid hdl; clear hdl
    have HYL := Lib.hid hyl; clear hyl
    have SW := Lib.hid sw; clear sw
    have SH := Lib.hid sh; clear sh
    have z1 : ¬ fx = 0 := by omega
    have z2 : ¬ fy = 0 := by omega
    go_wp2_with fail
    refine (small_any P Q _ (by omega) (by omega)).mono ?_
    rintro e w' ⟨rfl, rfl⟩
    rw [DS.out]
    go_wp2_with fail
    refine (sm_yes p g W H cp ys fx fy P Q _ hp2 HZT.out HE.out).mono ?_
    rintro e w3 ⟨pa, ga', ca, rfl, ha3, m1, m2, b3⟩
    rw [HLL.out] at ha3
    have hp3 := hp2.below b3
    go_wp2_with fail
    refine (dn_yes p g W H cp ys fx fy _ hp3 HZT.out e1.1 e1.2 e2.1 e2.2).mono ?_
    rintro e w4 ⟨pb, gb, cb, rfl, hb4, m3, m4, b4⟩
    simp only [HWD.out, HHG.out, HDD.out] at hb4
    have hp4 := hp3.below b4
    have ha4 := ha3.below b4
    have a4 : Below w.heap.size w w4 := below_then (below_then a2 b3) b4
    go_wp2_with fail
    go_loopw [17] (fun i wr => ∃ bb m : Nat, bb ≤ Q ∧ i = .int .i64 bb ∧ wr = w4.drewN m) (fun i _ => Q - (intOf i).toNat)
    case atStart => exact ⟨0, 0, Nat.zero_le _, rfl, rfl⟩
    case round =>
      obtain ⟨bb, m, hb0, rfl, rfl⟩ := hrel
      by_cases hlt : bb < Q
      · go_wp2_with fail
        go_loopw [18] (fun i wr => ∃ a m : Nat, a ≤ P ∧ i = .int .i64 a ∧ wr = w4.drewN m) (fun i _ => P - (intOf i).toNat)
        case atStart => exact ⟨0, m, Nat.zero_le _, rfl, rfl⟩
        case round =>
          obtain ⟨a, m, ha0, rfl, rfl⟩ := hrel
          by_cases hal : a < P
          · have hv := smp_flt l P a bb (by rw [HLEN.out]; exact row_lt hlt hal)
            obtain ⟨bi1, bi2⟩ := way_bnd (x := a) e1.1
            obtain ⟨bj1, bj2⟩ := way_bnd (x := bb) e2.1
            have hsv : l.getD (bb * P + a) 0 = smV ys W H fx fy a bb := by
              rw [← HLL.out, List.getD_eq_getElem?_getD, gridL_get _ hal (row_lt hlt hal)]
              rfl
            rw [hsv] at hv
            have qa : a / fx < W := Nat.div_lt_of_lt_mul (by rw [HP.out]; exact hal)
            have qb : bb / fy < H := Nat.div_lt_of_lt_mul (by rw [HQ.out]; exact hlt)
            have hown := smp_map ys W (a / fx) (bb / fy) (by rw [HYL.out, Nat.mul_comm W H]; exact row_lt qb qa)
            have hnear := near_in (zs := ys) qa qb
            have hamid := fun lo hi h0 h255 => smV_amid (zs := ys) (W := W) (H := H) (x := a) (y := bb) (lo := lo) (hi := hi) h0 h255 e1.1 e1.2 e2.1 e2.2
            have hmid := fun hx hy => smV_mid HZT.out (W := W) (H := H) (x := a) (y := bb) e1.1 e1.2 e2.1 e2.2 hx hy
            have wm1 := way_mid (a := a) e1.1 e1.2
            have wm2 := way_mid (a := bb) e2.1 e2.2
            have hfin := smV_fin HZT.out W H (fx := fx) (fy := fy) a bb e1.1 e1.2 e2.1 e2.2
            obtain ⟨v, hvv⟩ : ∃ v, smV ys W H fx fy a bb = v := ⟨_, rfl⟩
            obtain ⟨ii, hii⟩ : ∃ ii, Flo.wayI a fx = ii := ⟨_, rfl⟩
            obtain ⟨jj, hjj⟩ : ∃ jj, Flo.wayI bb fy = jj := ⟨_, rfl⟩
            obtain ⟨ra, hra⟩ : ∃ ra, Flo.wayR a fx = ra := ⟨_, rfl⟩
            obtain ⟨rb, hrb⟩ : ∃ rb, Flo.wayR bb fy = rb := ⟨_, rfl⟩
            obtain ⟨ow, how⟩ : ∃ ow, ys.getD (bb / fy * W + a / fx) 0 = ow := ⟨_, rfl⟩
            have howb := HZT.out.getD (bb / fy * W + a / fx)
            have hi1 : (2 * (a : Int) + 1 - fx) / (2 * (fx : Int)) = ii := hii
            have hj1 : (2 * (bb : Int) + 1 - fy) / (2 * (fy : Int)) = jj := hjj
            rw [hvv] at hv hamid hmid hfin
            rw [hii] at bi1 bi2 hamid hmid wm1
            rw [hjj] at bj1 bj2 hamid hmid wm2
            rw [hra] at hmid wm1
            rw [hrb] at hmid wm2
            rw [how] at hown hnear howb
            have ga : (a : Int).tdiv (fx : Int) = ((a / fx : Nat) : Int) := by rw [Int.tdiv_eq_ediv_of_nonneg (by omega), Int.natCast_ediv]
            have gb : (bb : Int).tdiv (fy : Int) = ((bb / fy : Nat) : Int) := by rw [Int.tdiv_eq_ediv_of_nonneg (by omega), Int.natCast_ediv]
            have gam : (a : Int).tmod (fx : Int) = ((a % fx : Nat) : Int) := by rw [Int.tmod_eq_emod_of_nonneg (by omega), Int.natCast_emod]
            have gbm : (bb : Int).tmod (fy : Int) = ((bb % fy : Nat) : Int) := by rw [Int.tmod_eq_emod_of_nonneg (by omega), Int.natCast_emod]
            have gam' : IntKind.i64.wrap ((a : Int) % (fx : Int)) = ((a % fx : Nat) : Int) := by rw [← Int.natCast_emod]; exact wrapN (by have := Nat.mod_lt a (show 0 < fx by omega); omega)
            have gbm' : IntKind.i64.wrap ((bb : Int) % (fy : Int)) = ((bb % fy : Nat) : Int) := by rw [← Int.natCast_emod]; exact wrapN (by have := Nat.mod_lt bb (show 0 < fy by omega); omega)
            have gaw : IntKind.i64.wrap ((a : Int) / (fx : Int)) = ((a / fx : Nat) : Int) := by rw [← Int.natCast_ediv]; exact wrapN (by have := Nat.div_le_self a fx; omega)
            have gbw : IntKind.i64.wrap ((bb : Int) / (fy : Int)) = ((bb / fy : Nat) : Int) := by rw [← Int.natCast_ediv]; exact wrapN (by have := Nat.div_le_self bb fy; omega)
            have mra := Nat.mod_lt a (show 0 < fx by omega)
            have mrb := Nat.mod_lt bb (show 0 < fy by omega)
            obtain ⟨da, hda⟩ : ∃ da, a / fx = da := ⟨_, rfl⟩
            obtain ⟨db, hdb⟩ : ∃ db, bb / fy = db := ⟨_, rfl⟩
            obtain ⟨ma, hma⟩ : ∃ ma, a % fx = ma := ⟨_, rfl⟩
            obtain ⟨mb, hmb⟩ : ∃ mb, bb % fy = mb := ⟨_, rfl⟩
            rw [hda] at ga gaw hown hnear qa wm1
            rw [hdb] at gb gbw hown hnear qb wm2
            rw [hma] at gam gam' mra wm1
            rw [hmb] at gbm gbm' mrb wm2
            have c1 : IntKind.i64.wrap (da : Int) = (da : Int) := wrapN (by omega)
            have c2 : IntKind.i64.wrap (db : Int) = (db : Int) := wrapN (by omega)
            have c3 : IntKind.i64.wrap (ma : Int) = (ma : Int) := wrapN (by omega)
            have c4 : IntKind.i64.wrap (mb : Int) = (mb : Int) := wrapN (by omega)
            clear hvv hii hjj hra hrb how hsv hda hdb hma hmb
            have HV := Lib.hid hv; clear hv
            have HOWN := Lib.hid hown; clear hown
            have HNEAR := Lib.hid hnear; clear hnear
            have HAMID := Lib.hid hamid; clear hamid
            have HMID := Lib.hid hmid; clear hmid
            have WM1 := Lib.hid wm1; clear wm1
            have WM2 := Lib.hid wm2; clear wm2
            have HFIN := Lib.hid hfin; clear hfin
            have HI1 := Lib.hid hi1; clear hi1
            have HJ1 := Lib.hid hj1; clear hj1
            obtain ⟨na, hna⟩ : ∃ na, 2 * (a : Int) + 1 - (fx : Int) = na := ⟨_, rfl⟩
            obtain ⟨nb, hnb⟩ : ∃ nb, 2 * (bb : Int) + 1 - (fy : Int) = nb := ⟨_, rfl⟩
            have bna : -10 ≤ na ∧ na ≤ 1000000000 := by omega
            have bnb : -10 ≤ nb ∧ nb ≤ 1000000000 := by omega
            go_wp2_with fail
            refine (PF.at_in pa ga' P Q ca _ (a : Int) (bb : Int) _ (ha4.drewN _) (by omega) (by omega) (by omega) (by omega)).mono ?_
            rintro e w' ⟨hee, n1, rfl⟩
            rw [HV.out] at hee
            subst hee
            go_wp2_with fail
            refine (low_any na F1 _ (by omega) (by omega) (by omega) (by omega)).mono ?_
            rintro e w' ⟨rfl, rfl⟩
            rw [show na / (F1 : Int) = ii by rw [← hna, ← hF1]; exact HI1.out]
            go_wp2_with fail
            refine (low_any nb F2 _ (by omega) (by omega) (by omega) (by omega)).mono ?_
            rintro e w' ⟨rfl, rfl⟩
            rw [show nb / (F2 : Int) = jj by rw [← hnb, ← hF2]; exact HJ1.out]
            go_wp2_with fail
            refine (ends_of p g W H cp ys ii jj (ii + 1) (jj + 1) _ (hp4.drewN _) HZT.out (by omega) (by omega) (by omega) (by omega) (by omega) (by omega)).mono ?_
            rintro e w' ⟨lo, hi, rfl, l1, l2, l3, l4, hall, n2, rfl⟩
            have ham := HAMID.out lo hi l1 l4 (hall ii jj (by omega) (by omega) (by omega) (by omega)) (hall (ii + 1) jj (by omega) (by omega) (by omega) (by omega)) (hall ii (jj + 1) (by omega) (by omega) (by omega) (by omega)) (hall (ii + 1) (jj + 1) (by omega) (by omega) (by omega) (by omega))
            have o1 : (FloatKind.f32.format.order v (floatOfInt .f32 lo) == some .lt) = false := not_less ham (Int.le_refl _) (by omega)
            have o2 : (FloatKind.f32.format.order v (floatOfInt .f32 hi) == some .gt) = false := not_more ham (Int.le_refl _) (by omega)
            clear ham hall
            go_upto_region 23 with fail
            refine Lex3.wp_region_lex [23] (fun _ => True) (fun u n h => h) trivial (by kernel_rfl) (by kernel_rfl) ?_
            refine Lex3.run_free (v := ?_) (by rfl) (by rfl) (fun u => ?_) ?_; rotate_left; (go_simp; try with_reducible rfl); simp only [Act.put, List.setIfInBounds_toArray, List.set_cons_zero, List.set_cons_succ]
            refine Lex3.run_free (v := ?_) (by rfl) (by rfl) (fun u => ?_) ?_; rotate_left; (go_simp; try with_reducible rfl); simp only [Act.put, List.setIfInBounds_toArray, List.set_cons_zero, List.set_cons_succ]
            refine Lex3.run_free (v := ?_) (by rfl) (by rfl) (fun u => ?_) ?_; rotate_left; (go_simp; try with_reducible rfl); simp only [Act.put, List.setIfInBounds_toArray, List.set_cons_zero, List.set_cons_succ]
            refine Lex3.run_free (v := ?_) (by rfl) (by rfl) (fun u => ?_) ?_; rotate_left; (go_simp; try with_reducible rfl); simp only [Act.put, List.setIfInBounds_toArray, List.set_cons_zero, List.set_cons_succ]
            refine Lex3.run_free (v := ?_) (by rfl) (by rfl) (fun u => ?_) ?_; rotate_left; (go_simp; try with_reducible rfl); simp only [Act.put, List.setIfInBounds_toArray, List.set_cons_zero, List.set_cons_succ]
            refine Lex3.run_free (v := ?_) (by rfl) (by rfl) (fun u => ?_) ?_; rotate_left; (go_simp; try with_reducible rfl); simp only [Act.put, List.setIfInBounds_toArray, List.set_cons_zero, List.set_cons_succ]
            refine Lex3.run_free (v := ?_) (by rfl) (by rfl) (fun u => ?_) ?_; rotate_left; (go_simp; try with_reducible rfl); simp only [Act.put, List.setIfInBounds_toArray, List.set_cons_zero, List.set_cons_succ]
            refine Lex3.run_call (v := .tuple #[.int .u8 ow, .bool true]) (f := 23) (args := #[.pointer (some ⟨p, 0, none⟩), .int .i64 da, .int .i64 db]) (by rfl) (by rfl) (fun n => ?_) (fun n => ?_) ?_
            · go_simp
            · refine (P8.at_in p g W H cp _ (da : Int) (db : Int) ((w4.drewN (m + n1 + n2)).drew.drewN n) (hp4.keep rfl rfl) (by omega) (by omega) (by omega) (by omega)).mono ?_
              rintro e w' ⟨rfl, k, rfl⟩
              exact ⟨by rw [HOWN.out], k, rfl⟩
            simp only [Act.put, List.setIfInBounds_toArray, List.set_cons_zero, List.set_cons_succ]
            refine Lex3.run_free (v := ?_) (by rfl) (by rfl) (fun u => ?_) ?_; rotate_left; (go_simp; try with_reducible rfl); simp only [Act.put, List.setIfInBounds_toArray, List.set_cons_zero, List.set_cons_succ]
            refine Lex3.run_free (v := ?_) (by rfl) (by rfl) (fun u => ?_) ?_; rotate_left; (go_simp; try with_reducible rfl); simp only [Act.put, List.setIfInBounds_toArray, List.set_cons_zero, List.set_cons_succ]
            refine Lex3.run_free (v := ?_) (by rfl) (by rfl) (fun u => ?_) ?_; rotate_left; (go_simp; try with_reducible rfl); simp only [Act.put, List.setIfInBounds_toArray, List.set_cons_zero, List.set_cons_succ]
            refine Lex3.run_free (v := ?_) (by rfl) (by rfl) (fun u => ?_) ?_; rotate_left; (go_simp; try with_reducible rfl); simp only [Act.put, List.setIfInBounds_toArray, List.set_cons_zero, List.set_cons_succ]
            refine Lex3.run_free (v := ?_) (by rfl) (by rfl) (fun u => ?_) ?_; rotate_left; (go_simp; try with_reducible rfl); simp only [Act.put, List.setIfInBounds_toArray, List.set_cons_zero, List.set_cons_succ]
            refine Lex3.run_nil (fun n3 => ?_)
            clear o1 o2
            by_cases t1 : tx = 1
            · subst t1
              by_cases t2 : ty = 1
              · subst t2
                by_cases t3 : ma = hx2
                · subst t3
                  by_cases t4 : mb = hy2
                  · subst t4
                    have hmx := WM1.out HTX.out HHX.out.symm
                    have hmy := WM2.out HTY.out HHY.out.symm
                    have hV := HMID.out hmx.1 hmy.1
                    rw [hmx.2, hmy.2, HNEAR.out] at hV
                    obtain ⟨q4, q5⟩ := Flo.int_fin ow (by omega)
                    have ho : FloatKind.f32.format.order v (floatOfInt .f32 ow) = some .eq := order_eq HFIN.out q4 (by rw [hV, q5])
                    clear hmx hmy hV q4 q5
                    go_wp2_with fail
                    go_roundw
                    case rel => exact ⟨a + 1, _, by omega, by go_num, rfl⟩
                    case measure => simp [intOf]; omega
                  · have u4 : ¬ (mb : Int) = (hy2 : Int) := by omega
                    go_wp2_with fail
                    go_roundw
                    case rel => exact ⟨a + 1, _, by omega, by go_num, rfl⟩
                    case measure => simp [intOf]; omega
                · have u3 : ¬ (ma : Int) = (hx2 : Int) := by omega
                  go_wp2_with fail
                  go_roundw
                  case rel => exact ⟨a + 1, _, by omega, by go_num, rfl⟩
                  case measure => simp [intOf]; omega
              · have u2 : ¬ (ty : Int) = 1 := by omega
                go_wp2_with fail
                go_roundw
                case rel => exact ⟨a + 1, _, by omega, by go_num, rfl⟩
                case measure => simp [intOf]; omega
            · have u1 : ¬ (tx : Int) = 1 := by omega
              go_wp2_with fail
              go_roundw
              case rel => exact ⟨a + 1, _, by omega, by go_num, rfl⟩
              case measure => simp [intOf]; omega
          · go_wp2_with fail
            go_roundw
            case rel => exact ⟨bb + 1, m, by omega, by go_num, rfl⟩
            case measure => simp [intOf]; omega
      · go_wp2_with fail
        refine (P8.size_any pb gb wide high cb _ _ (hb4.drewN _)).mono ?_
        rintro e w' ⟨rfl, n9, rfl⟩
        clear hb0 hlt
        go_wp2_with fail
        go_loopw [29] (fun i wr => ∃ y m : Nat, y ≤ high ∧ i = .int .i64 y ∧ wr = w4.drewN m) (fun i _ => high - (intOf i).toNat)
        case atStart => exact ⟨0, _, Nat.zero_le _, rfl, rfl⟩
        case round =>
          obtain ⟨y, m, hy, rfl, rfl⟩ := hrel
          by_cases hlt : y < high
          · go_wp2_with fail
            go_loopw [30] (fun i wr => ∃ x m : Nat, x ≤ wide ∧ i = .int .i64 x ∧ wr = w4.drewN m) (fun i _ => wide - (intOf i).toNat)
            case atStart => exact ⟨0, m, Nat.zero_le _, rfl, rfl⟩
            case round =>
              obtain ⟨x, m, hx, rfl, rfl⟩ := hrel
              by_cases hxl : x < wide
              · have hv := smp_map ds wide x y (by rw [HDL.out]; exact row_lt hlt hxl)
                have hdv : ds.getD (y * wide + x) 0 = dnV ys W H fx fy x y := by
                  rw [← HDD.out, List.getD_eq_getElem?_getD, gridL_get _ hxl (row_lt hlt hxl)]
                  rfl
                rw [hdv] at hv
                have hbet := fun lo hi => dn_between (zs := ys) (W := W) (H := H) (x := x) (y := y) (lo := lo) (hi := hi) e1.1 e2.1
                obtain ⟨v, hvv⟩ : ∃ v, dnV ys W H fx fy x y = v := ⟨_, rfl⟩
                obtain ⟨c, hc'⟩ : ∃ c, fx * x = c := ⟨_, rfl⟩
                obtain ⟨d, hd'⟩ : ∃ d, fy * y = d := ⟨_, rfl⟩
                rw [hvv] at hv hbet
                rw [hc', hd'] at hbet
                have hci : (fx : Int) * (x : Int) = (c : Int) := by rw [← hc', Int.natCast_mul]
                have hdi : (fy : Int) * (y : Int) = (d : Int) := by rw [← hd', Int.natCast_mul]
                have bc : c ≤ 4 * 67108864 := by rw [← hc']; exact Nat.mul_le_mul e1.2 (by omega)
                have bd : d ≤ 4 * 67108864 := by rw [← hd']; exact Nat.mul_le_mul e2.2 (by omega)
                have wc : IntKind.i64.wrap (c : Int) = (c : Int) := wrapN (by omega)
                have wd : IntKind.i64.wrap (d : Int) = (d : Int) := wrapN (by omega)
                clear hvv hdv hc' hd'
                have HV := Lib.hid hv; clear hv
                have HBET := Lib.hid hbet; clear hbet
                go_wp2_with fail
                refine (P8.at_in pb gb wide high cb _ (x : Int) (y : Int) _ (hb4.drewN _) (by omega) (by omega) (by omega) (by omega)).mono ?_
                rintro e w' ⟨hee, n1, rfl⟩
                rw [HV.out] at hee
                subst hee
                go_wp2_with fail
                refine (ends_of p g W H cp ys c d ((c : Int) + (fx : Int) - 1) ((d : Int) + (fy : Int) - 1) _ (hp4.drewN _) HZT.out (by omega) (by omega) (by omega) (by omega) (by omega) (by omega)).mono ?_
                rintro e w' ⟨lo, hi, rfl, l1, l2, l3, l4, hall, n2, rfl⟩
                obtain ⟨o1, o2⟩ := HBET.out lo hi hall
                clear hall
                have o3 : ¬ v < lo := by omega
                have o4 : ¬ hi < v := by omega
                go_wp2_with fail
                go_roundw
                case rel => exact ⟨x + 1, _, by omega, by go_num, rfl⟩
                case measure => simp [intOf]; omega
              · go_wp2_with fail
                go_roundw
                case rel => exact ⟨y + 1, m, by omega, by go_num, rfl⟩
                case measure => simp [intOf]; omega
          · have sw := SW.out
            have sh := SH.out
            obtain ⟨u1, hu1⟩ : ∃ u, (wide - 1) * fx = u := ⟨_, rfl⟩
            obtain ⟨u2, hu2⟩ : ∃ u, wide * fx = u := ⟨_, rfl⟩
            obtain ⟨u3, hu3⟩ : ∃ u, (high - 1) * fy = u := ⟨_, rfl⟩
            obtain ⟨u4, hu4⟩ : ∃ u, high * fy = u := ⟨_, rfl⟩
            rw [hu1, hu2] at sw
            rw [hu3, hu4] at sh
            have v1 : ((wide : Int) - 1) * (fx : Int) = (u1 : Int) := by rw [← hu1, Int.natCast_mul]; congr 1; omega
            have v2 : (wide : Int) * (fx : Int) = (u2 : Int) := by rw [← hu2, Int.natCast_mul]
            have v3 : ((high : Int) - 1) * (fy : Int) = (u3 : Int) := by rw [← hu3, Int.natCast_mul]; congr 1; omega
            have v4 : (high : Int) * (fy : Int) = (u4 : Int) := by rw [← hu4, Int.natCast_mul]
            have b2 : u2 ≤ 67108864 * 4 := by rw [← hu2]; exact Nat.mul_le_mul (by omega) e1.2
            have b4 : u4 ≤ 67108864 * 4 := by rw [← hu4]; exact Nat.mul_le_mul (by omega) e2.2
            have d1 : IntKind.i64.wrap (u1 : Int) = (u1 : Int) := wrapN (by omega)
            have d2 : IntKind.i64.wrap (u2 : Int) = (u2 : Int) := wrapN (by omega)
            have d3 : IntKind.i64.wrap (u3 : Int) = (u3 : Int) := wrapN (by omega)
            have d4 : IntKind.i64.wrap (u4 : Int) = (u4 : Int) := wrapN (by omega)
            have q1 : u1 < W := sw.1
            have q2 : W ≤ u2 := sw.2
            have q3 : u3 < H := sh.1
            have q4 : H ≤ u4 := sh.2
            clear hu1 hu2 hu3 hu4 sw sh
            go_wp2_with fail
            go_ret
            exact ⟨rfl, below_drewN a4 _⟩
  · have dsm : decide (P * Q ≤ 4000000) = false := by simpa using hsm
    have DS := Lib.hid dsm; clear dsm hsm
    go_wp2_with fail
    refine (small_any P Q _ (by omega) (by omega)).mono ?_
    rintro e w' ⟨rfl, rfl⟩
    rw [DS.out]
    go_wp2_with fail
    go_ret
    exact ⟨rfl, a2⟩
end Go.Proofs.Ytlbocfinjlkebaa.Samp
