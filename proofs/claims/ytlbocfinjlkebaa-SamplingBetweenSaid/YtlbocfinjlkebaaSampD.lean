/- Down: a plane of means: the program's walk. -/
import Derived.Test.YtlbocfinjlkebaaSampDn
import Derived.Test.YtlbocfinjlkebaaSampR
import Derived.Test.YtlbocfinjlkebaaLex3
namespace Go.Proofs.Ytlbocfinjlkebaa.Samp
open Go.RowKit

theorem wrapN {m : Nat} (h : m ≤ 1000000000) : IntKind.i64.wrap (m : Int) = (m : Int) := IntWalk.i64_in _ (by omega)
theorem facE_yes {a b : Int} (h1 : 1 ≤ a) (h2 : a ≤ 4) (h3 : 1 ≤ b) (h4 : b ≤ 4) : facE false a b = 0 := by
  unfold facE
  rw [if_neg (by simp), if_neg (by omega)]

set_option maxRecDepth 100000 in
set_option maxHeartbeats 8000000 in
theorem dn_yes (b g W H c : Nat) (zs : List Int) (fx fy : Nat) (w : World) (hp : P8.PA w b g W H c (zs.map (.int .u8))) (hz : Bytes zs) (e1 : 1 ≤ fx) (e2 : fx ≤ 4) (e3 : 1 ≤ fy) (e4 : fy ≤ 4) :
    Calls Try.prog 20 #[.pointer (some ⟨b, 0, none⟩), .int .i64 fx, .int .i64 fy] w (P8.MadeP w (dnS W fx) (dnS H fy) ((gridL (dnS W fx) (dnV zs W H fx fy) (dnS H fy * dnS W fx)).map (.int .u8))) := by
  obtain ⟨i0, hi, hz0, hz1, hz2⟩ := info_parts P8.info
  have hl : zs.length = W * H := by simpa using hp.len
  have hs := hp.side
  have hW := hp.wide
  have hH := hp.high
  have HE := Lib.hid (facE_yes (a := fx) (b := fy) (by omega) (by omega) (by omega) (by omega))
  obtain ⟨n, hn⟩ : ∃ n, fx * fy = n := ⟨_, rfl⟩
  have n1 : 1 ≤ n := by rw [← hn]; exact Nat.mul_le_mul e1 e3
  have n2 : n ≤ 16 := by rw [← hn]; exact Nat.mul_le_mul e2 e4
  have hni : (fx : Int) * (fy : Int) = (n : Int) := by rw [← hn, Int.natCast_mul]
  have hdv : ∀ x y, dnV zs W H fx fy x y = (2 * sumV zs W H fx fy x y n + (n : Int)) / (2 * (n : Int)) := by
    intro x y
    unfold dnV meanV
    rw [hn]
  have hby := fun x y => dnV_byte hz W H fx fy x y e1 e3
  obtain ⟨wide, hwd⟩ : ∃ wide, dnS W fx = wide := ⟨_, rfl⟩
  obtain ⟨high, hhg⟩ : ∃ high, dnS H fy = high := ⟨_, rfl⟩
  have bw1 : 1 ≤ wide := by rw [← hwd]; exact dnS_pos hW e1
  have bh1 : 1 ≤ high := by rw [← hhg]; exact dnS_pos hH e3
  have bw2 : wide ≤ W := by rw [← hwd]; exact dnS_le e1
  have bh2 : high ≤ H := by rw [← hhg]; exact dnS_le e3
  have qw : ((W : Int) + (fx : Int) - 1) / (fx : Int) = (wide : Int) := by
    rw [← hwd]; unfold dnS
    rw [Int.natCast_ediv]; congr 1; omega
  have qh : ((H : Int) + (fy : Int) - 1) / (fy : Int) = (high : Int) := by
    rw [← hhg]; unfold dnS
    rw [Int.natCast_ediv]; congr 1; omega
  have qwt : ((W : Int) + (fx : Int) - 1).tdiv (fx : Int) = (wide : Int) := by rw [Int.tdiv_eq_ediv_of_nonneg (by omega)]; exact qw
  have qht : ((H : Int) + (fy : Int) - 1).tdiv (fy : Int) = (high : Int) := by rw [Int.tdiv_eq_ediv_of_nonneg (by omega)]; exact qh
  have xin : ∀ x, x < wide → fx * x < W := by
    intro x hx
    rw [← hwd] at hx
    unfold dnS at hx
    have h1 : x + 1 ≤ (W + fx - 1) / fx := hx
    rw [Nat.le_div_iff_mul_le (by omega), Nat.add_mul, Nat.one_mul, Nat.mul_comm] at h1
    omega
  have yin : ∀ y, y < high → fy * y < H := by
    intro y hy
    rw [← hhg] at hy
    unfold dnS at hy
    have h1 : y + 1 ≤ (H + fy - 1) / fy := hy
    rw [Nat.le_div_iff_mul_le (by omega), Nat.add_mul, Nat.one_mul, Nat.mul_comm] at h1
    omega
  rw [hwd, hhg]
  obtain ⟨N, hN⟩ : ∃ N, wide * high = N := ⟨_, rfl⟩
  have hNi : (wide : Int) * (high : Int) = (N : Int) := by rw [← hN, Int.natCast_mul]
  have hN1 : 1 ≤ N := by rw [← hN]; exact Nat.mul_le_mul bw1 bh1
  have hN2 : N ≤ 67108864 := by rw [← hN]; exact Nat.le_trans (Nat.mul_le_mul bw2 bh2) hp.size
  have HN := Lib.hid hN; clear hN
  have fit : fitsB wide high = true := by
    rw [fitsB_iff]
    refine ⟨by omega, by omega, ?_⟩
    rw [hNi]; omega
  have hmk : ∀ u : World, (Instr.makeSlice 28 (.int .i64 0) (.int .i64 (N : Int))).run Try.prog u = .ok (.slice (some ⟨u.heap.size, 0, none⟩) 0 N) (u.alloc (.cells (madeCells (Value.cells (.int .u8 0)) N) 5)) := fun u => by
    have hr := run_make (P := Try.prog) u 28 5 i0 (.int .u8 0) Try.underlying28 hi hz0 .i64 .i64 0 N (by omega) (by omega) (by rw [hz2]; omega) (by omega)
    simpa [hz1] using hr
  have z1 : ¬ fx = 0 := by omega
  have z2 : ¬ fy = 0 := by omega
  have z3 : ¬ n = 0 := by omega
  have HWD := Lib.hid hwd; clear hwd
  have HHG := Lib.hid hhg; clear hhg
  have HDV := Lib.hid hdv; clear hdv
  have HBY := Lib.hid hby; clear hby
  have HXI := Lib.hid xin; clear xin
  have HYI := Lib.hid yin; clear yin
  have HHN := Lib.hid hn; clear hn
  have HHL := Lib.hid hl; clear hl
  have q1 : IntKind.i64.wrap ((W : Int) + (fx : Int)) = (W : Int) + (fx : Int) := IntWalk.i64_in _ (by omega)
  have q2 : IntKind.i64.wrap ((W : Int) + (fx : Int) - 1) = (W : Int) + (fx : Int) - 1 := IntWalk.i64_in _ (by omega)
  have q3 : IntKind.i64.wrap ((H : Int) + (fy : Int)) = (H : Int) + (fy : Int) := IntWalk.i64_in _ (by omega)
  have q4 : IntKind.i64.wrap ((H : Int) + (fy : Int) - 1) = (H : Int) + (fy : Int) - 1 := IntWalk.i64_in _ (by omega)
  have q5 : IntKind.i64.wrap (wide : Int) = (wide : Int) := IntWalk.i64_in _ (by omega)
  have q6 : IntKind.i64.wrap (high : Int) = (high : Int) := IntWalk.i64_in _ (by omega)
  go_enter Try.func20, Try.ntmps20
  go_wp2_with fail
  refine (pf_some _ fx fy w).mono ?_
  rintro e w' ⟨rfl, rfl⟩
  simp only [HE.out]
  go_wp2_with fail
  refine (P8.size_any b g W H c _ w hp).mono ?_
  rintro e w' ⟨rfl, n0, rfl⟩
  go_upto_region 5 with fail
  refine Lex3.wp_region_lex [] (fun _ => True) (fun u n h => h) trivial (by kernel_rfl) (by kernel_rfl) ?_
  refine Lex3.run_free (v := ?_) (by rfl) (by rfl) (fun u => ?_) ?_; rotate_left; (go_simp; try with_reducible rfl); simp only [Act.put, List.setIfInBounds_toArray, List.set_cons_zero, List.set_cons_succ]
  refine Lex3.run_free (v := ?_) (by rfl) (by rfl) (fun u => ?_) ?_; rotate_left; (go_simp; try with_reducible rfl); simp only [Act.put, List.setIfInBounds_toArray, List.set_cons_zero, List.set_cons_succ]
  refine Lex3.run_free (v := ?_) (by rfl) (by rfl) (fun u => ?_) ?_; rotate_left; (go_simp; try with_reducible rfl); simp only [Act.put, List.setIfInBounds_toArray, List.set_cons_zero, List.set_cons_succ]
  refine Lex3.run_free (v := ?_) (by rfl) (by rfl) (fun u => ?_) ?_; rotate_left; (go_simp; try with_reducible rfl); simp only [Act.put, List.setIfInBounds_toArray, List.set_cons_zero, List.set_cons_succ]
  refine Lex3.run_free (v := ?_) (by rfl) (by rfl) (fun u => ?_) ?_; rotate_left; (go_simp; try with_reducible rfl); simp only [Act.put, List.setIfInBounds_toArray, List.set_cons_zero, List.set_cons_succ]
  refine Lex3.run_free (v := ?_) (by rfl) (by rfl) (fun u => ?_) ?_; rotate_left; (go_simp; try with_reducible rfl); simp only [Act.put, List.setIfInBounds_toArray, List.set_cons_zero, List.set_cons_succ]
  refine Lex3.run_free (v := ?_) (by rfl) (by rfl) (fun u => ?_) ?_; rotate_left; (go_simp; try with_reducible rfl); simp only [Act.put, List.setIfInBounds_toArray, List.set_cons_zero, List.set_cons_succ]
  refine Lex3.run_free (v := ?_) (by rfl) (by rfl) (fun u => ?_) ?_; rotate_left; (go_simp; try with_reducible rfl); simp only [Act.put, List.setIfInBounds_toArray, List.set_cons_zero, List.set_cons_succ]
  refine Lex3.run_free (v := ?_) (by rfl) (by rfl) (fun u => ?_) ?_; rotate_left; (go_simp; try with_reducible rfl); simp only [Act.put, List.setIfInBounds_toArray, List.set_cons_zero, List.set_cons_succ]
  refine Lex3.run_free (v := ?_) (by rfl) (by rfl) (fun u => ?_) ?_; rotate_left; (go_simp; try with_reducible rfl); simp only [Act.put, List.setIfInBounds_toArray, List.set_cons_zero, List.set_cons_succ]
  refine Lex3.run_free (v := ?_) (by rfl) (by rfl) (fun u => ?_) ?_; rotate_left; (go_simp; try with_reducible rfl); simp only [Act.put, List.setIfInBounds_toArray, List.set_cons_zero, List.set_cons_succ]
  refine Lex3.run_free (v := ?_) (by rfl) (by rfl) (fun u => ?_) ?_; rotate_left; (go_simp; try with_reducible rfl); simp only [Act.put, List.setIfInBounds_toArray, List.set_cons_zero, List.set_cons_succ]
  refine Lex3.run_free (v := ?_) (by rfl) (by rfl) (fun u => ?_) ?_; rotate_left; (go_simp; try with_reducible rfl); simp only [Act.put, List.setIfInBounds_toArray, List.set_cons_zero, List.set_cons_succ]
  refine Lex3.run_free (v := ?_) (by rfl) (by rfl) (fun u => ?_) ?_; rotate_left; (go_simp; try with_reducible rfl); simp only [Act.put, List.setIfInBounds_toArray, List.set_cons_zero, List.set_cons_succ]
  refine Lex3.run_nil (fun n1 => ?_)
  clear q1 q2 q3 q4 qw qh qwt qht
  go_wp2_with fail
  have w0 : Below w.heap.size w (w.drewN (n0 + 1 + n1)) := below_drewN (Below.refl _ _) _
  go_loopw [14, 51] (fun s i wr => ∃ y n' : Nat, y ≤ high ∧ y * wide = n' ∧ i = .int .i64 y ∧ wr.ownsRow w.heap.size 5 1 s n' ((gridL wide (dnV zs W H fx fy) n').map (.int .u8)) ∧ Below w.heap.size w wr) (fun _ i _ => high - (intOf i).toNat)
  case atStart =>
    refine ⟨0, 0, Nat.zero_le _, Nat.zero_mul _, rfl, ?_, w0.alloc (by simp) _⟩
    exact World.ownsRow_made (w.drewN (n0 + 1 + n1)) (madeCells (Value.cells (.int .u8 0)) N) N (Nat.le_refl _) (by unfold maxLen; omega) (by rw [size_madeCells, Nat.mul_one])
  case round =>
    obtain ⟨y, n', hy, hn, rfl, hown, hb⟩ := hrel
    have HNN := Lib.hid hn; clear hn
    by_cases hlt : y < high
    · have hyi := HYI.out y hlt
      go_wp2_with fail
      go_loopw [14, 55] (fun s i wr => ∃ x m : Nat, x ≤ wide ∧ n' + x = m ∧ i = .int .i64 x ∧ wr.ownsRow w.heap.size 5 1 s m ((gridL wide (dnV zs W H fx fy) m).map (.int .u8)) ∧ Below w.heap.size w wr) (fun _ i _ => wide - (intOf i).toNat)
      case atStart => exact ⟨0, n', Nat.zero_le _, rfl, rfl, hown, hb⟩
      case round =>
        obtain ⟨x, m, hx, hm, rfl, hown, hb⟩ := hrel
        by_cases hxl : x < wide
        · have hmN : m < N := by
            have h1 : (y + 1) * wide ≤ high * wide := Nat.mul_le_mul_right wide hlt
            rw [Nat.add_mul, Nat.one_mul, HNN.out, Nat.mul_comm high wide, HN.out] at h1
            omega
          have hxi := HXI.out x hxl
          obtain ⟨a, ha⟩ : ∃ a, fx * x = a := ⟨_, rfl⟩
          obtain ⟨e, he⟩ : ∃ e, fy * y = e := ⟨_, rfl⟩
          have hai : (fx : Int) * (x : Int) = (a : Int) := by rw [← ha, Int.natCast_mul]
          have hei : (fy : Int) * (y : Int) = (e : Int) := by rw [← he, Int.natCast_mul]
          rw [ha] at hxi
          rw [he] at hyi
          have HA := Lib.hid ha; clear ha
          have HEE := Lib.hid he; clear he
          go_wp2_with fail
          go_loopw [17, 59] (fun s i wk => ∃ k j : Nat, k ≤ n ∧ s = .int .i64 (sumV zs W H fx fy x y k) ∧ i = .int .i64 k ∧ wk = wr.drewN j) (fun _ i _ => n - (intOf i).toNat)
          case atStart => exact ⟨0, 0, Nat.zero_le _, rfl, rfl, rfl⟩
          case round =>
            obtain ⟨k, j, hk, rfl, rfl, rfl⟩ := hrel
            have hsb := sumV_bnd hz W H fx fy x y k
            by_cases hkl : k < n
            · have hnx := sumV_next zs W H fx fy x y k
              have hvb := hz.near W H ((fx * x + k % fx : Nat) : Int) ((fy * y + k / fx : Nat) : Int)
              rw [HA.out, HEE.out] at hnx hvb
              have hu4 : k % fx < 4 := by have := Nat.mod_lt k (show 0 < fx by omega); omega
              have hv4 : k / fx ≤ 16 := by have := Nat.div_le_self k fx; omega
              have y1 : IntKind.i64.wrap ((k : Int) % (fx : Int)) = ((k % fx : Nat) : Int) := by rw [← Int.natCast_emod]; exact wrapN (by omega)
              have y2 : IntKind.i64.wrap ((k : Int) / (fx : Int)) = ((k / fx : Nat) : Int) := by rw [← Int.natCast_ediv]; exact wrapN (by omega)
              have y1t : (k : Int).tmod (fx : Int) = ((k % fx : Nat) : Int) := by rw [Int.tmod_eq_emod_of_nonneg (by omega), Int.natCast_emod]
              have y2t : (k : Int).tdiv (fx : Int) = ((k / fx : Nat) : Int) := by rw [Int.tdiv_eq_ediv_of_nonneg (by omega), Int.natCast_ediv]
              obtain ⟨u, hu⟩ : ∃ u, k % fx = u := ⟨_, rfl⟩
              obtain ⟨v, hv⟩ : ∃ v, k / fx = v := ⟨_, rfl⟩
              have hsm := near_smp (zs := zs) (W := W) (H := H) ((a + u : Nat) : Int) ((e + v : Nat) : Int) HHL.out hW hH
              rw [hu] at hnx hvb y1 y1t hu4
              rw [hv] at hnx hvb y2 y2t hv4
              clear hu hv
              obtain ⟨s, hs⟩ : ∃ s, sumV zs W H fx fy x y k = s := ⟨_, rfl⟩
              obtain ⟨t, ht⟩ : ∃ t, nearV zs W H ((a + u : Nat) : Int) ((e + v : Nat) : Int) = t := ⟨_, rfl⟩
              rw [hs] at hnx hsb ⊢
              rw [ht] at hnx hvb hsm
              clear hs ht
              rw [Int.natCast_add, Int.natCast_add] at hsm
              have HNX := Lib.hid hnx; clear hnx
              have HSM := Lib.hid hsm; clear hsm
              have y3 : IntKind.i64.wrap t = t := IntWalk.i64_in _ (by omega)
              have y4 : IntKind.i64.wrap (s + t) = s + t := IntWalk.i64_in _ (by omega)
              have y5 : IntKind.i64.wrap ((a : Int) + (u : Int)) = (a : Int) + (u : Int) := IntWalk.i64_in _ (by omega)
              have y6 : IntKind.i64.wrap ((e : Int) + (v : Int)) = (e : Int) + (v : Int) := IntWalk.i64_in _ (by omega)
              have y9 : IntKind.i64.wrap (v : Int) = (v : Int) := wrapN (by omega)
              have y10 : IntKind.i64.wrap (u : Int) = (u : Int) := wrapN (by omega)
              have y7 : IntKind.i64.wrap (a : Int) = (a : Int) := IntWalk.i64_in _ (by omega)
              have y8 : IntKind.i64.wrap (e : Int) = (e : Int) := IntWalk.i64_in _ (by omega)
              go_upto_region 18 with fail
              refine Lex3.wp_region_lex [27] (fun _ => True) (fun u n h => h) trivial (by kernel_rfl) (by kernel_rfl) ?_
              refine Lex3.run_free (v := ?_) (by rfl) (by rfl) (fun u => ?_) ?_; rotate_left; (go_simp; try with_reducible rfl); simp only [Act.put, List.setIfInBounds_toArray, List.set_cons_zero, List.set_cons_succ]
              refine Lex3.run_free (v := ?_) (by rfl) (by rfl) (fun u => ?_) ?_; rotate_left; (go_simp; try with_reducible rfl); simp only [Act.put, List.setIfInBounds_toArray, List.set_cons_zero, List.set_cons_succ]
              refine Lex3.run_free (v := ?_) (by rfl) (by rfl) (fun u => ?_) ?_; rotate_left; (go_simp; try with_reducible rfl); simp only [Act.put, List.setIfInBounds_toArray, List.set_cons_zero, List.set_cons_succ]
              refine Lex3.run_free (v := ?_) (by rfl) (by rfl) (fun u => ?_) ?_; rotate_left; (go_simp; try with_reducible rfl); simp only [Act.put, List.setIfInBounds_toArray, List.set_cons_zero, List.set_cons_succ]
              refine Lex3.run_free (v := ?_) (by rfl) (by rfl) (fun u => ?_) ?_; rotate_left; (go_simp; try with_reducible rfl); simp only [Act.put, List.setIfInBounds_toArray, List.set_cons_zero, List.set_cons_succ]
              refine Lex3.run_free (v := ?_) (by rfl) (by rfl) (fun u => ?_) ?_; rotate_left; (go_simp; try with_reducible rfl); simp only [Act.put, List.setIfInBounds_toArray, List.set_cons_zero, List.set_cons_succ]
              refine Lex3.run_free (v := ?_) (by rfl) (by rfl) (fun u => ?_) ?_; rotate_left; (go_simp; try with_reducible rfl); simp only [Act.put, List.setIfInBounds_toArray, List.set_cons_zero, List.set_cons_succ]
              refine Lex3.run_free (v := ?_) (by rfl) (by rfl) (fun u => ?_) ?_; rotate_left; (go_simp; try with_reducible rfl); simp only [Act.put, List.setIfInBounds_toArray, List.set_cons_zero, List.set_cons_succ]
              refine Lex3.run_free (v := ?_) (by rfl) (by rfl) (fun u => ?_) ?_; rotate_left; (go_simp; try with_reducible rfl); simp only [Act.put, List.setIfInBounds_toArray, List.set_cons_zero, List.set_cons_succ]
              refine Lex3.run_free (v := ?_) (by rfl) (by rfl) (fun u => ?_) ?_; rotate_left; (go_simp; try with_reducible rfl); simp only [Act.put, List.setIfInBounds_toArray, List.set_cons_zero, List.set_cons_succ]
              refine Lex3.run_free (v := ?_) (by rfl) (by rfl) (fun u => ?_) ?_; rotate_left; (go_simp; try with_reducible rfl); simp only [Act.put, List.setIfInBounds_toArray, List.set_cons_zero, List.set_cons_succ]
              refine Lex3.run_free (v := ?_) (by rfl) (by rfl) (fun u => ?_) ?_; rotate_left; (go_simp; try with_reducible rfl); simp only [Act.put, List.setIfInBounds_toArray, List.set_cons_zero, List.set_cons_succ]
              refine Lex3.run_free (v := ?_) (by rfl) (by rfl) (fun u => ?_) ?_; rotate_left; (go_simp; try with_reducible rfl); simp only [Act.put, List.setIfInBounds_toArray, List.set_cons_zero, List.set_cons_succ]
              refine Lex3.run_free (v := ?_) (by rfl) (by rfl) (fun u => ?_) ?_; rotate_left; (go_simp; try with_reducible rfl); simp only [Act.put, List.setIfInBounds_toArray, List.set_cons_zero, List.set_cons_succ]
              refine Lex3.run_free (v := ?_) (by rfl) (by rfl) (fun u => ?_) ?_; rotate_left; (go_simp; try with_reducible rfl); simp only [Act.put, List.setIfInBounds_toArray, List.set_cons_zero, List.set_cons_succ]
              refine Lex3.run_free (v := ?_) (by rfl) (by rfl) (fun u => ?_) ?_; rotate_left; (go_simp; try with_reducible rfl); simp only [Act.put, List.setIfInBounds_toArray, List.set_cons_zero, List.set_cons_succ]
              refine Lex3.run_call (v := .int .u8 t) (f := 27) (args := #[.pointer (some ⟨b, 0, none⟩), .int .i64 ((a : Int) + (u : Int)), .int .i64 ((e : Int) + (v : Int))]) (by rfl) (by rfl) (fun n => ?_) (fun n => ?_) ?_
              · go_simp
              · refine (P8.near_any b g W H c _ _ _ ((wr.drewN j).drew.drewN n) ((hp.below hb).keep rfl rfl)).mono ?_
                rintro e w' ⟨rfl, k, rfl⟩
                exact ⟨by rw [HSM.out], k, rfl⟩
              simp only [Act.put, List.setIfInBounds_toArray, List.set_cons_zero, List.set_cons_succ]
              refine Lex3.run_free (v := ?_) (by rfl) (by rfl) (fun u => ?_) ?_; rotate_left; (go_simp; try with_reducible rfl); simp only [Act.put, List.setIfInBounds_toArray, List.set_cons_zero, List.set_cons_succ]
              refine Lex3.run_free (v := ?_) (by rfl) (by rfl) (fun u => ?_) ?_; rotate_left; (go_simp; try with_reducible rfl); simp only [Act.put, List.setIfInBounds_toArray, List.set_cons_zero, List.set_cons_succ]
              refine Lex3.run_free (v := ?_) (by rfl) (by rfl) (fun u => ?_) ?_; rotate_left; (go_simp; try with_reducible rfl); simp only [Act.put, List.setIfInBounds_toArray, List.set_cons_zero, List.set_cons_succ]
              refine Lex3.run_nil (fun n3 => ?_)
              go_wp2_with fail
              go_roundw
              case rel => exact ⟨k + 1, j + 1 + n3, by omega, by rw [HNX.out], by go_num, by simp [Nat.add_assoc]⟩
              case measure => simp [intOf]; omega
            · have hkn : k = n := by omega
              subst hkn
              have hv := HDV.out x y
              have hvb := HBY.out x y
              have hnx := gridL_next (dnV zs W H fx fy) hxl (show y * wide + x = m by rw [HNN.out, hm])
              obtain ⟨s, hs⟩ : ∃ s, sumV zs W H fx fy x y k = s := ⟨_, rfl⟩
              obtain ⟨t, ht⟩ : ∃ t, dnV zs W H fx fy x y = t := ⟨_, rfl⟩
              rw [hs] at hv hsb ⊢
              rw [ht] at hv hvb hnx
              clear hs ht
              have HNX := Lib.hid hnx; clear hnx
              have y1 : (2 * s + (k : Int)) / (2 * (k : Int)) = t := hv.symm
              clear hv
              have y2 : IntKind.u8.wrap t = t := by apply IntWalk.u8_in <;> omega
              have y3 : IntKind.i64.wrap t = t := IntWalk.i64_in _ (by omega)
              have y4 : ¬ 2 * k = 0 := by omega
              go_wp2_with (at_builtin; refine wpList_append_lies _ rfl (.tmp 82) (.tmp 91) 28 rfl w.heap.size 5 i0 (.int .u8 0) 1 1 Try.underlying28 hi hz0 hz1 hz2 rfl (by decide) _ m _ rfl (show World.ownsRow _ _ _ _ _ _ _ from hown.alloc (.cells #[.int .u8 t] 5)) ⟨wr.heap.size, 0, none⟩ 1 1 [.int .u8 t] rfl rfl (show ∀ i u, _ → World.cell? _ _ = _ from cell_one_new (wr.drewN j) _ _) (by intro u hu; simp at hu; subst hu; rfl) (by decide) (by unfold maxLen; omega) (by omega) (show w.heap.size ≤ (wr.alloc (.cells #[.int .u8 t] 5)).heap.size by simp; have := hb.size; omega) (wr.heap.size + 1) (show (wr.alloc (.cells #[.int .u8 t] 5)).heap.size = _ by simp) ?_; intro gg cap w1 hown1 hgrow hat hlt1)
              have hb1 : Below w.heap.size w w1 := by
                have h1 : Below w.heap.size w ((wr.drewN j).alloc (.cells #[.int .u8 t] 5)) := (below_drewN hb j).alloc hb.size _
                have h2 : ((wr.drewN j).alloc (.cells #[.int .u8 t] 5)).grownBy w1 (Value.ownBlock _) := ⟨hgrow.os, hgrow.tape, hgrow.output, hgrow.size, hgrow.block⟩
                exact h1.grown h2 h1.size (fun j hj => (hown.lt j hj).1)
              have hown2 : w1.ownsRow w.heap.size 5 1 (.slice (some ⟨gg, 0, none⟩) (m + 1) cap) (m + 1) ((gridL wide (dnV zs W H fx fy) (m + 1)).map (.int .u8)) := by
                rw [HNX.out, List.map_append]
                exact hown1
              go_roundw
              case rel => exact ⟨x + 1, m + 1, by omega, by omega, by go_num, hown2, hb1⟩
              case measure => simp [intOf]; omega
        · go_wp2_with fail
          go_roundw
          case rel => exact ⟨y + 1, m, by omega, by rw [Nat.add_mul, Nat.one_mul, HNN.out]; omega, by go_num, hown, hb⟩
          case measure => simp [intOf]; omega
    · have hyh : y = high := by omega
      subst hyh
      have hnN : n' = N := by have := HN.out; have := HNN.out; rw [Nat.mul_comm] at this; omega
      subst hnN
      obtain ⟨g1, cap, rfl, hg0, hg1⟩ := hown.form hN1
      obtain ⟨curg, hgb, hgs, hgt, hgn⟩ := row_of_owns hown
      have sl0 : Sl wr (some ⟨g1, 0, none⟩) (wide * y) ((gridL wide (dnV zs W H fx fy) (y * wide)).map (.int .u8)) := by
        rw [HN.out, HNN.out]
        exact Sl.of_blk hgb hgt (by omega)
      clear hown
      go_wp2_with fail
      refine (show Calls Try.prog 50 #[.int .i64 wide, .int .i64 y, .slice (some ⟨g1, 0, none⟩) n' cap] _ _ from HN.out ▸ P8.of_yes wide y g1 0 cap _ _ fit sl0 (ints_oneCell .u8 _)).mono ?_
      rintro e w2 ⟨p, gp, cp, rfl, hp2, hpn, hgpn, hb2⟩
      go_wp2_with fail
      go_ret2
      exact MadeP8.from ⟨p, gp, cp, rfl, hp2, hpn, hgpn, hb2⟩ hb
end Go.Proofs.Ytlbocfinjlkebaa.Samp
