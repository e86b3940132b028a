/- PlaneBytes: a plane of bytes is one of ints from 0 to 255: the walk. -/
import Derived.Test.YtlbocfinjlkebaaBytW
import Derived.Test.YtlbocfinjlkebaaPieces
import Derived.Laws.Tables
import Derived.Deep.WholeRow
namespace Go.Proofs.Ytlbocfinjlkebaa.Byt
open Go.RowKit

theorem u8_mod (s : Int) : IntKind.u8.wrap s = s % 256 := rfl
theorem allb_snoc {zs : List Int} (h : AllB zs) {u : Int} (h1 : 0 ≤ u) (h2 : u ≤ 255) : AllB (zs ++ [u]) := by
  intro z hz
  rw [List.mem_append] at hz
  rcases hz with hz | hz
  · exact h z hz
  · simp at hz
    omega
set_option maxRecDepth 100000 in
set_option maxHeartbeats 16000000 in
theorem bytes_law (wide high : Int) (A : Option Addr) (pn pc : Nat) (ps : List Int) (x y v : Int) (w : World) (hps : Sl w A pn (ps.map (.int .i64))) (hpm : pn ≤ maxLen) :
    Calls Try.prog 10 #[.int .i64 wide, .int .i64 high, .slice A pn pc, .int .i64 x, .int .i64 y, .int .i64 v] w (TrueB w) := by
  obtain ⟨i0, hi, hz0, hz1, hz2⟩ := info_parts PI.info
  obtain ⟨hzv8, hsz8⟩ := zero_of_info P8.info64
  obtain ⟨hzvI, hszI⟩ := zero_of_info PI.info64
  have c8s := tileC_size (fun _ => Value.int .u8 0) (.int .u8 0) (Nat.zero_le 64)
  have cIs := tileC_size (fun _ => Value.int .i64 0) (.int .i64 0) (Nat.zero_le 64)
  generalize tileC (fun _ => Value.int .u8 0) (.int .u8 0) 0 = C8 at hzv8 c8s
  generalize tileC (fun _ => Value.int .i64 0) (.int .i64 0) 0 = CI at hzvI cIs
  unfold maxLen at hpm
  have pl : ps.length = pn := by simpa using hps.1
  have PL := Lib.hid pl; clear pl
  have HPS := Lib.hid hps; clear hps
  go_enter Try.func10, Try.ntmps10
  go_wp2_with fail
  refine (awake_any _).mono ?_
  rintro e w1 ⟨rfl, b1⟩
  go_wp2_with fail
  refine (Pieces.at_any _ _ _ (by decide) (by decide)).mono ?_
  rintro e w' ⟨wv, rfl, hw0, hw1, rfl⟩
  obtain ⟨wn, rfl⟩ := Int.eq_ofNat_of_zero_le hw0
  go_wp2_with fail
  refine (Pieces.at_any _ _ _ (by decide) (by decide)).mono ?_
  rintro e w' ⟨hv, rfl, hh0, hh1, rfl⟩
  obtain ⟨hn, rfl⟩ := Int.eq_ofNat_of_zero_le hh0
  go_wp2_with fail
  obtain ⟨W, hW⟩ : ∃ W, 1 + wn = W := ⟨_, rfl⟩
  obtain ⟨H, hH⟩ : ∃ H, 1 + hn = H := ⟨_, rfl⟩
  have eW : 1 + (wn : Int) = (W : Int) := by omega
  have eH : 1 + (hn : Int) = (H : Int) := by omega
  have bW : 1 ≤ W ∧ W ≤ 20 := by omega
  have bH : 1 ≤ H ∧ H ≤ 20 := by omega
  clear hw0 hw1 hh0 hh1
  simp only [eW, eH]
  clear eW eH hW hH
  obtain ⟨N, hN⟩ : ∃ N, W * H = N := ⟨_, rfl⟩
  have hNi : (W : Int) * (H : Int) = (N : Int) := by rw [← hN, Int.natCast_mul]
  have bN : N ≤ 400 := by rw [← hN]; exact Nat.mul_le_mul bW.2 bH.2
  have bN1 : 1 ≤ N := by rw [← hN]; exact Nat.mul_le_mul bW.1 bH.1
  have HN := Lib.hid hN; clear hN
  have HPS1 := Lib.hid (HPS.out.below b1)
  go_loopw [16, 17] (fun l i wr => ∃ (k : Nat) (zs : List Int), k ≤ N ∧ i = .int .i64 k ∧ Below w1.heap.size w1 wr ∧ AllB zs ∧ wr.ownsRow w1.heap.size 3 1 l k (zs.map (.int .i64))) (fun _ i _ => N - (intOf i).toNat)
  case atStart => exact ⟨0, [], Nat.zero_le _, rfl, Below.refl _ _, fun z hz => by simp at hz, World.ownsRow_nil _ _ _ _⟩
  case round =>
    obtain ⟨k, zs, hk, rfl, hb, hall, hown⟩ := hrel
    by_cases hlt : k < N
    · by_cases hpn : 0 < pn
      · obtain ⟨j, hj⟩ : ∃ j, k % pn = j := ⟨_, rfl⟩
        have hjl : j < pn := by rw [← hj]; exact Nat.mod_lt _ hpn
        have y4 : (k : Int).tmod (pn : Int) = (j : Int) := by rw [Int.tmod_eq_emod_of_nonneg (by omega), ← hj, Int.natCast_emod]
        have y5 : (k : Int) % (pn : Int) = (j : Int) := by rw [← hj, Int.natCast_emod]
        have y6 : IntKind.i64.wrap (j : Int) = (j : Int) := IntWalk.i64_in _ (by omega)
        clear hj
        obtain ⟨bp, op, rfl, hcp⟩ := (HPS1.out.below hb).2 hpn
        have d0 : wr.cell? ⟨bp, op + j, none⟩ = some (.int .i64 (ps.getD j 0)) := by
          have hjp : j < ps.length := by rw [PL.out]; exact hjl
          rw [hcp j hjl, List.getElem?_map, List.getElem?_eq_getElem hjp, List.getD_eq_getElem?_getD, List.getElem?_eq_getElem hjp]
          rfl
        clear hcp
        have p0 : ¬ pn = 0 := by omega
        obtain ⟨s, hs⟩ : ∃ s, ps.getD j 0 = s := ⟨_, rfl⟩
        rw [hs] at d0
        clear hs
        obtain ⟨u, hu⟩ : ∃ u, s % 256 = u := ⟨_, rfl⟩
        have hub : 0 ≤ u ∧ u ≤ 255 := by omega
        have y1 : IntKind.u8.wrap s = u := by rw [← hu]; exact u8_mod s
        have y2 : IntKind.i64.wrap u = u := IntWalk.i64_in _ (by omega)
        have y3 : IntKind.u8.wrap u = u := by apply IntWalk.u8_in <;> omega
        go_wp2_with (at_builtin; refine wpList_append_lies _ rfl (.tmp 68) (.tmp 72) 50 rfl w1.heap.size 3 i0 (.int .i64 0) 1 8 Try.underlying50 hi hz0 hz1 hz2 rfl (by decide) _ k _ rfl (hown.alloc _) ⟨wr.heap.size, 0, none⟩ 1 1 [.int .i64 u] rfl rfl (show ∀ i u, _ → World.cell? _ _ = _ from cell_one_new wr _ _) (by intro u hu; simp at hu; subst hu; rfl) (by decide) (by unfold maxLen; omega) (by omega) (show w1.heap.size ≤ (wr.alloc (.cells #[.int .i64 u] 3)).heap.size by simp; have := hb.size; omega) (wr.heap.size + 1) (show (wr.alloc (.cells #[.int .i64 u] 3)).heap.size = _ by simp) ?_; intro gg cap w2 hown2 hgrow2 hat2 hlt2)
        go_roundw
        case rel =>
          refine ⟨k + 1, zs ++ [u], by omega, by go_num, ?_, allb_snoc hall hub.1 hub.2, by rw [List.map_append]; exact hown2⟩
          exact (hb.alloc hb.size _).grown hgrow2 (by simp; have := hb.size; omega) (fun j hj => (hown.lt j hj).1)
        case measure => simp [intOf]; omega
      · have p0 : pn = 0 := by omega
        have hpn' : ¬ (0 : Int) < (pn : Int) := by omega
        obtain ⟨s, hs⟩ : ∃ s, (k : Int) * 7 = s := ⟨_, rfl⟩
        have hs7 : IntKind.i64.wrap s = s := IntWalk.i64_in _ (by omega)
        clear p0
        obtain ⟨u, hu⟩ : ∃ u, s % 256 = u := ⟨_, rfl⟩
        have hub : 0 ≤ u ∧ u ≤ 255 := by omega
        have y1 : IntKind.u8.wrap s = u := by rw [← hu]; exact u8_mod s
        have y2 : IntKind.i64.wrap u = u := IntWalk.i64_in _ (by omega)
        have y3 : IntKind.u8.wrap u = u := by apply IntWalk.u8_in <;> omega
        go_wp2_with (at_builtin; refine wpList_append_lies _ rfl (.tmp 68) (.tmp 72) 50 rfl w1.heap.size 3 i0 (.int .i64 0) 1 8 Try.underlying50 hi hz0 hz1 hz2 rfl (by decide) _ k _ rfl (hown.alloc _) ⟨wr.heap.size, 0, none⟩ 1 1 [.int .i64 u] rfl rfl (show ∀ i u, _ → World.cell? _ _ = _ from cell_one_new wr _ _) (by intro u hu; simp at hu; subst hu; rfl) (by decide) (by unfold maxLen; omega) (by omega) (show w1.heap.size ≤ (wr.alloc (.cells #[.int .i64 u] 3)).heap.size by simp; have := hb.size; omega) (wr.heap.size + 1) (show (wr.alloc (.cells #[.int .i64 u] 3)).heap.size = _ by simp) ?_; intro gg cap w2 hown2 hgrow2 hat2 hlt2)
        go_roundw
        case rel =>
          refine ⟨k + 1, zs ++ [u], by omega, by go_num, ?_, allb_snoc hall hub.1 hub.2, by rw [List.map_append]; exact hown2⟩
          exact (hb.alloc hb.size _).grown hgrow2 (by simp; have := hb.size; omega) (fun j hj => (hown.lt j hj).1)
        case measure => simp [intOf]; omega
    · have hkN : k = N := by omega
      clear hk hlt
      subst hkN
      obtain ⟨g, cap, rfl, hg0, hg1⟩ := hown.form bN1
      obtain ⟨curg, hgb, hgs, hgt, hgn⟩ := row_of_owns hown
      have hzl : zs.length = k := by have := hown.1; simpa using this
      have sl0 : Sl wr (some ⟨g, 0, none⟩) k (zs.map (.int .i64)) := Sl.of_blk hgb hgt (by omega)
      have fit : fitsB W H = true := by
        rw [fitsB_iff]
        refine ⟨by omega, by omega, ?_⟩
        rw [hNi]; omega
      clear hown
      obtain ⟨mk, hmk⟩ : ∃ mk, v % 256 = mk := ⟨_, rfl⟩
      have hmb : 0 ≤ mk ∧ mk ≤ 255 := by omega
      have m1 : IntKind.u8.wrap v = mk := by rw [← hmk]; exact u8_mod v
      have m2 : IntKind.i64.wrap mk = mk := IntWalk.i64_in _ (by omega)
      have w2 : (W : Int).tdiv 2 = ((W / 2 : Nat) : Int) := by rw [Int.tdiv_eq_ediv_of_nonneg (by omega)]; omega
      have h2 : (H : Int).tdiv 2 = ((H / 2 : Nat) : Int) := by rw [Int.tdiv_eq_ediv_of_nonneg (by omega)]; omega
      have w2' : (W : Int) / 2 = ((W / 2 : Nat) : Int) := by omega
      have h2' : (H : Int) / 2 = ((H / 2 : Nat) : Int) := by omega
      obtain ⟨cw, hcw⟩ : ∃ cw, W / 2 = cw := ⟨_, rfl⟩
      obtain ⟨ch, hch⟩ : ∃ ch, H / 2 = ch := ⟨_, rfl⟩
      rw [hcw] at w2 w2'
      rw [hch] at h2 h2'
      have bcw : cw ≤ 10 := by omega
      have bch : ch ≤ 10 := by omega
      clear hcw hch
      have HZL := Lib.hid hzl; clear hzl
      have ab : Below w.heap.size w wr := below_then b1 hb
      go_wp2_with fail
      refine (bytes_any g 0 k cap zs _ sl0 hall bN1 (by omega)).mono ?_
      rintro e w2 ⟨g8, c8, rfl, sl8, b2⟩
      have sl2 := sl0.below b2
      go_wp2_with fail
      refine (show Calls Try.prog 50 #[.int .i64 W, .int .i64 H, .slice (some ⟨g8, 0, none⟩) k c8] _ _ from HN.out ▸ P8.of_yes W H g8 0 c8 _ _ fit (by rw [HN.out]; exact sl8) (ints_oneCell .u8 _)).mono ?_
      rintro e w3 ⟨p, gp, cp, rfl, hp3, p1, p2, b3⟩
      have sl3 := sl2.below b3
      go_wp2_with fail
      refine (show Calls Try.prog 29 #[.int .i64 W, .int .i64 H, .slice (some ⟨g, 0, none⟩) k cap] _ _ from HN.out ▸ PI.of_yes W H g 0 cap _ _ fit (by rw [HN.out]; exact sl3) (ints_oneCell .i64 _)).mono ?_
      rintro e w4 ⟨q, gq, cq, rfl, hq4, q1, q2, b4⟩
      have hp4 := hp3.below b4
      have l1 := hp3.blt
      have l2 := hp3.glt
      have a3 := below_then (below_then ab b2) b3
      have a4 := below_then a3 b4
      have s3 := (below_then ab b2).size
      have s4 := a3.size
      go_wp2_with fail
      refine (set8 p gp W H cp zs x y mk _ hp4).mono ?_
      rintro e w5 ⟨rfl, hp5, g5⟩
      have hq5 := hq4.grown g5 (by simp; omega) (by simp; omega)
      have a5 := a4.grown g5 a4.size (fun j hj => by injection hj with hj; omega)
      go_wp2_with fail
      refine (setI q gq W H cq zs x y mk _ hq5).mono ?_
      rintro e w6 ⟨rfl, hq6, g6⟩
      have hp6 := hp5.grown g6 (by simp; omega) (by simp; omega)
      have a6 := a5.grown g6 a5.size (fun j hj => by injection hj with hj; omega)
      have hz1' := AllB.set hall W H x y hmb.1 hmb.2
      obtain ⟨ins, hins⟩ : ∃ ins, inB x y W H = ins := ⟨_, rfl⟩
      rw [hins]
      clear hins
      generalize setZ W H zs x y mk = zs1 at *
      go_wp2_with fail
      refine (self8 p gp W H cp zs1 y x _ hp6).mono ?_
      rintro e w7 ⟨rfl, hp7, g7⟩
      have hq7 := hq6.grown g7 (by simp; omega) (by simp; omega)
      have a7 := a6.grown g7 a6.size (fun j hj => by injection hj with hj; omega)
      go_wp2_with fail
      refine (selfI q gq W H cq zs1 y x _ hq7).mono ?_
      rintro e w8 ⟨rfl, hq8, g8'⟩
      have hp8 := hp7.grown g8' (by simp; omega) (by simp; omega)
      have a8 := a7.grown g8' a7.size (fun j hj => by injection hj with hj; omega)
      have hz2' := AllB.self hz1' W H y x
      generalize selfZ W H zs1 y x = zs2 at *
      have hl2 : zs2.length = W * H := by have := hp8.len; simpa using this
      go_wp2_with fail
      refine (map_55 p gp W H cp zs2 _ hp8 hz2').mono ?_
      rintro e w9 ⟨c, gc, cc, rfl, hc9, r1, r2, b9⟩
      rw [List.map_id] at hc9
      have hp9 := hp8.below b9
      have hq9 := hq8.below b9
      go_wp2_with fail
      refine (map_57 q gq W H cq zs2 _ hq9 hz2').mono ?_
      rintro e w10 ⟨d, gd, cd, rfl, hd10, r3, r4, b10⟩
      rw [List.map_id] at hd10
      have hp10 := hp9.below b10
      have hq10 := hq9.below b10
      have hc10 := hc9.below b10
      have a10 := below_then (below_then a8 b9) b10
      have nb := AllB.near hz2' W H x y
      have m3 : IntKind.i64.wrap (nearZ zs2 W H x y) = nearZ zs2 W H x y := IntWalk.i64_in _ (by omega)
      have i1 : (ins != ins) = false := by simp
      go_wp2_with fail
      refine (PI.same_any c gc W H cc q gq W H cq zs2 zs2 _ hc10 hq10).mono ?_
      rintro e w' ⟨rfl, n1, rfl⟩
      rw [sameI]
      go_wp2_with fail
      refine (P8.same_any d gd W H cd p gp W H cp zs2 zs2 _ (hd10.drewN _) (hp10.drewN _)).mono ?_
      rintro e w' ⟨rfl, n2, rfl⟩
      rw [same8]
      go_wp2_with fail
      refine (near8 p gp W H cp zs2 x y _ (hp10.drewN _)).mono ?_
      rintro e w' ⟨rfl, n3, rfl⟩
      go_wp2_with fail
      refine (nearI q gq W H cq zs2 x y _ (hq10.drewN _)).mono ?_
      rintro e w' ⟨rfl, n4, rfl⟩
      go_wp2_with fail
      refine (tile8 p gp W H cp zs2 x y _ (hp10.drewN _)).mono ?_
      rintro e w11 ⟨rfl, b11⟩
      have t8s := tileC_size (fun j => Value.int .u8 (nearZ zs2 W H (tileX x j) (tileY y j))) (.int .u8 0) (Nat.le_refl 64)
      have t8o : (tileC (fun j => Value.int .u8 (nearZ zs2 W H (tileX x j) (tileY y j))) (.int .u8 0) 64).all (·.oneCell') = true := tileC_one (fun j => rfl) rfl
      have t8g : ∀ j, j < 64 → (tileC (fun j => Value.int .u8 (nearZ zs2 W H (tileX x j) (tileY y j))) (.int .u8 0) 64)[j]? = some (.int .u8 (nearZ zs2 W H (tileX x j) (tileY y j))) := fun j hj => tileC_get _ _ hj
      have tIs := tileC_size (fun j => Value.int .i64 (nearZ zs2 W H (tileX x j) (tileY y j))) (.int .i64 0) (Nat.le_refl 64)
      have tIo : (tileC (fun j => Value.int .i64 (nearZ zs2 W H (tileX x j) (tileY y j))) (.int .i64 0) 64).all (·.oneCell') = true := tileC_one (fun j => rfl) rfl
      have tIg : ∀ j, j < 64 → (tileC (fun j => Value.int .i64 (nearZ zs2 W H (tileX x j) (tileY y j))) (.int .i64 0) 64)[j]? = some (.int .i64 (nearZ zs2 W H (tileX x j) (tileY y j))) := fun j hj => tileC_get _ _ hj
      generalize tileC (fun j => Value.int .u8 (nearZ zs2 W H (tileX x j) (tileY y j))) (.int .u8 0) 64 = T8 at *
      obtain ⟨TI, hTI⟩ : ∃ TI, tileC (fun j => Value.int .i64 (nearZ zs2 W H (tileX x j) (tileY y j))) (.int .i64 0) 64 = TI := ⟨_, rfl⟩
      rw [hTI] at tIs tIo tIg
      have HTI := Lib.hid hTI; clear hTI
      have T8G := Lib.hid t8g; clear t8g
      have TIG := Lib.hid tIg; clear tIg
      have h8s : (Try.prog.info? 95).map (·.size) = some T8.size := by rw [t8s]; exact hsz8
      have hIs : (Try.prog.info? 97).map (·.size) = some TI.size := by rw [tIs]; exact hszI
      have o8s : C8.size = T8.size := by rw [t8s, c8s]
      have oIs : CI.size = TI.size := by rw [tIs, cIs]
      have H8S := Lib.hid h8s; clear h8s
      have HIS := Lib.hid hIs; clear hIs
      have O8S := Lib.hid o8s; clear o8s
      have OIS := Lib.hid oIs; clear oIs
      have T8O := Lib.hid t8o; clear t8o
      have TIO := Lib.hid tIo; clear tIo
      clear t8s tIs c8s cIs hsz8 hszI
      have b11' : Below w10.heap.size w10 (w11.alloc (.cells T8 95)) := (show Below w10.heap.size w10 w11 from ⟨b11.os, b11.tape, b11.output, b11.size, b11.block⟩).alloc b11.size _
      have hp11 := hp10.below b11'
      have hq11 := hq10.below b11'
      have k8 : Blk (w11.alloc (.cells T8 95)) w11.heap.size 95 T8 := Blk.new w11 _ _
      go_wp2_with (refine wpList_store_row rfl _ _ _ rfl _ _ rfl rfl _ _ (heap_alloc_last _ _) H8S.out O8S.out T8O.out ?_; rw [World.setRow_alloc_new])
      refine (tileI q gq W H cq zs2 x y _ hq11).mono ?_
      rintro e w12 ⟨rfl, b12⟩
      rw [HTI.out]
      have b12' : Below w11.heap.size w11 w12 := below_then ((Below.refl _ _).alloc (Nat.le_refl _) _) b12
      have k8' := k8.kept b12
      have hp12 := hp11.below b12
      have hq12 := hq11.below b12
      have b13 : Below w12.heap.size w12 (w12.alloc (.cells TI 97)) := (Below.refl _ _).alloc (Nat.le_refl _) _
      have k8'' := k8'.kept b13
      have kI : Blk (w12.alloc (.cells TI 97)) w12.heap.size 97 TI := Blk.new w12 _ _
      have hp13 := hp12.below b13
      have hq13 := hq12.below b13
      have a13 : Below w.heap.size w (w12.alloc (.cells TI 97)) := below_then (below_then (below_then a10 b11') b12) b13
      go_wp2_with (refine wpList_store_row rfl _ _ _ rfl _ _ rfl rfl _ _ (heap_alloc_last _ _) HIS.out OIS.out TIO.out ?_; rw [World.setRow_alloc_new])
      clear hzv8 hzvI
      obtain ⟨B8, hB8⟩ : ∃ B8, w11.heap.size = B8 := ⟨_, rfl⟩
      obtain ⟨BI, hBI⟩ : ∃ BI, w12.heap.size = BI := ⟨_, rfl⟩
      obtain ⟨wx, hwx⟩ : ∃ wx, w12.alloc (.cells TI 97) = wx := ⟨_, rfl⟩
      rw [hB8, hwx] at k8''
      rw [hBI, hwx] at kI
      rw [hwx] at hp13 hq13 a13
      simp only [hB8, hBI, hwx]
      clear hB8 hBI hwx
      go_loopw [30] (fun i wr => ∃ j m : Nat, j ≤ 64 ∧ i = .int .i64 j ∧ wr = wx.drewN m) (fun i _ => 64 - (intOf i).toNat)
      case atStart => exact ⟨0, 0, Nat.zero_le _, rfl, rfl⟩
      case round =>
        obtain ⟨j, m, hj, rfl, rfl⟩ := hrel
        by_cases hjl : j < 64
        · have d1 : (wx.drewN m).cell? ⟨B8, j, none⟩ = some (.int .u8 (nearZ zs2 W H (tileX x j) (tileY y j))) := by rw [(k8''.drewN m).cell, T8G.out j hjl]
          have d2 : (wx.drewN m).cell? ⟨BI, j, none⟩ = some (.int .i64 (nearZ zs2 W H (tileX x j) (tileY y j))) := by rw [(kI.drewN m).cell, TIG.out j hjl]
          have nz := AllB.near hz2' W H (tileX x j) (tileY y j)
          obtain ⟨z, hz⟩ : ∃ z, nearZ zs2 W H (tileX x j) (tileY y j) = z := ⟨_, rfl⟩
          rw [hz] at d1 d2 nz
          clear hz
          have wz : IntKind.i64.wrap z = z := IntWalk.i64_in _ (by omega)
          go_upto_region 30 with fail
          refine Lex3.wp_region_lex [] (fun u' => u'.cell? ⟨B8, j, none⟩ = some (.int .u8 z) ∧ u'.cell? ⟨BI, j, none⟩ = some (.int .i64 z)) (fun u n h => h) ⟨d1, d2⟩ (by kernel_rfl) (by kernel_rfl) ?_
          refine Lex3.run_free (v := ?_) (by rfl) (by rfl) (fun u => ?_) ?_; rotate_left; (go_simp; try with_reducible rfl); simp only [Act.put, List.setIfInBounds_toArray, List.set_cons_zero, List.set_cons_succ]
          refine Lex3.run_free (v := ?_) (by rfl) (by rfl) (fun u => ?_) ?_; rotate_left; (go_simp; try with_reducible rfl); simp only [Act.put, List.setIfInBounds_toArray, List.set_cons_zero, List.set_cons_succ]
          refine Lex3.run_load (v := ?_) (by rfl) (by rfl) (fun u hu => ?_) ?_; rotate_left; (obtain ⟨hu0, hu1⟩ := hu; go_simp; try with_reducible rfl); simp only [Act.put, List.setIfInBounds_toArray, List.set_cons_zero, List.set_cons_succ]
          refine Lex3.run_free (v := ?_) (by rfl) (by rfl) (fun u => ?_) ?_; rotate_left; (go_simp; try with_reducible rfl); simp only [Act.put, List.setIfInBounds_toArray, List.set_cons_zero, List.set_cons_succ]
          refine Lex3.run_free (v := ?_) (by rfl) (by rfl) (fun u => ?_) ?_; rotate_left; (go_simp; try with_reducible rfl); simp only [Act.put, List.setIfInBounds_toArray, List.set_cons_zero, List.set_cons_succ]
          refine Lex3.run_free (v := ?_) (by rfl) (by rfl) (fun u => ?_) ?_; rotate_left; (go_simp; try with_reducible rfl); simp only [Act.put, List.setIfInBounds_toArray, List.set_cons_zero, List.set_cons_succ]
          refine Lex3.run_load (v := ?_) (by rfl) (by rfl) (fun u hu => ?_) ?_; rotate_left; (obtain ⟨hu0, hu1⟩ := hu; go_simp; try with_reducible rfl); simp only [Act.put, List.setIfInBounds_toArray, List.set_cons_zero, List.set_cons_succ]
          refine Lex3.run_free (v := ?_) (by rfl) (by rfl) (fun u => ?_) ?_; rotate_left; (go_simp; try with_reducible rfl); simp only [Act.put, List.setIfInBounds_toArray, List.set_cons_zero, List.set_cons_succ]
          refine Lex3.run_nil (fun n9 => ?_)
          go_wp2_with fail
          go_roundw
          case rel => exact ⟨j + 1, m + 1 + n9, by omega, by go_num, by simp [Nat.add_assoc]⟩
          case measure => simp [intOf]; omega
        · have es := ends_same zs2
          have eb := AllB.ends hz2'
          have esome := ends_some (zs := zs2) (by rw [hl2]; exact Nat.mul_le_mul bW.1 bH.1)
          go_wp2_with fail
          refine (P8.ends_any p gp W H cp zs2 _ (hp13.drewN _)).mono ?_
          rintro e w' ⟨rfl, n5, rfl⟩
          rw [es, esome]
          clear es
          go_wp2_with fail
          refine (PI.ends_any q gq W H cq zs2 _ (hq13.drewN _)).mono ?_
          rintro e w' ⟨rfl, n6, rfl⟩
          rw [esome]
          clear esome
          obtain ⟨lo, hlo⟩ : ∃ lo, (PI.endsL zs2).1 = lo := ⟨_, rfl⟩
          obtain ⟨hi', hhi⟩ : ∃ hi', (PI.endsL zs2).2.1 = hi' := ⟨_, rfl⟩
          rw [hlo, hhi] at eb ⊢
          clear hlo hhi
          obtain ⟨⟨eb1, eb2⟩, eb3, eb4⟩ := eb
          have wlo : IntKind.i64.wrap lo = lo := IntWalk.i64_in _ (by omega)
          have whi : IntKind.i64.wrap hi' = hi' := IntWalk.i64_in _ (by omega)
          by_cases hcut : x < 0 ∨ y < 0 ∨ (cw : Int) < 1 ∨ (ch : Int) < 1 ∨ (W : Int) < cw ∨ (H : Int) < ch ∨ (W : Int) - cw < x ∨ (H : Int) - ch < y
          · have HCUT := Lib.hid hcut; clear hcut
            go_wp2_with fail
            refine (P8.cut_no p gp W H cp _ x y cw ch _ (hp13.drewN _) HCUT.out).mono ?_
            rintro e w' ⟨rfl, rfl⟩
            go_wp2_with fail
            refine (PI.cut_no q gq W H cq _ x y cw ch _ (hq13.drewN _) HCUT.out).mono ?_
            rintro e w' ⟨rfl, rfl⟩
            go_wp2_with fail
            go_ret
            exact ⟨rfl, below_drewN a13 _⟩
          · obtain ⟨xn, rfl⟩ := Int.eq_ofNat_of_zero_le (show 0 ≤ x by omega)
            obtain ⟨yn, rfl⟩ := Int.eq_ofNat_of_zero_le (show 0 ≤ y by omega)
            have c1 : 1 ≤ cw ∧ 1 ≤ ch ∧ xn + cw ≤ W ∧ yn + ch ≤ H := by omega
            clear hcut
            go_wp2_with fail
            refine (P8.cut_yes p gp W H cp _ xn yn cw ch _ (hp13.drewN _) (ints_oneCell .u8 zs2) c1.1 c1.2.1 c1.2.2.1 c1.2.2.2).mono ?_
            rintro e w14 ⟨kk, gk, ck, rfl, hk14, v1, v2, b14⟩
            have b14' : Below wx.heap.size wx w14 := ⟨b14.os, b14.tape, b14.output, b14.size, b14.block⟩
            have hq14 := hq13.below b14'
            go_wp2_with fail
            refine (PI.cut_yes q gq W H cq _ xn yn cw ch _ hq14 (ints_oneCell .i64 zs2) c1.1 c1.2.1 c1.2.2.1 c1.2.2.2).mono ?_
            rintro e w15 ⟨mm, gm, cm, rfl, hm15, v3, v4, b15⟩
            have hk15 := hk14.below b15
            rw [rows8] at hk15
            rw [rowsI] at hm15
            have hz3 := AllB.rows hz2' W xn yn cw ch
            generalize rowsZ W xn yn cw zs2 ch = zs3 at *
            go_wp2_with fail
            refine (map_65 kk gk cw ch ck zs3 _ hk15 hz3).mono ?_
            rintro e w16 ⟨ww, gw, cw', rfl, hw16, v5, v6, b16⟩
            rw [List.map_id] at hw16
            have hm16 := hm15.below b16
            go_wp2_with fail
            refine (PI.pix_any ww gw cw ch cw' _ _ hw16 (ints_oneCell .i64 zs3)).mono ?_
            rintro e w17 ⟨v', rfl, ⟨g5', c5, cur5, rfl, i1', i2, i3, i4, i5, i6⟩, b17⟩
            have t1 : Sl w17 (some ⟨g5', 0, none⟩) (cw * ch) (zs3.map (.int .i64)) := Sl.of_blk i1' i3 (by omega)
            have hm17 := hm16.below b17
            go_wp2_with fail
            refine (PI.pix_any mm gm cw ch cm _ _ hm17 (ints_oneCell .i64 zs3)).mono ?_
            rintro e w18 ⟨v', rfl, ⟨g6', c6, cur6, rfl, j1', j2, j3, j4, j5, j6⟩, b18⟩
            have t2 : Sl w18 (some ⟨g6', 0, none⟩) (cw * ch) (zs3.map (.int .i64)) := Sl.of_blk j1' j3 (by omega)
            have t1' := t1.below b18
            have bcc : cw * ch ≤ 100 := Nat.mul_le_mul bcw bch
            go_wp2_with fail
            refine (same12_any _ _ _ _ _ _ zs3 zs3 _ t1' t2 (by omega) (by omega)).mono ?_
            rintro e w' ⟨rfl, n7, rfl⟩
            rw [eqLI]
            go_wp2_with fail
            go_ret
            exact ⟨rfl, below_drewN (below_then (below_then (below_then (below_then (below_then a13 b14') b15) b16) b17) b18) _⟩
end Go.Proofs.Ytlbocfinjlkebaa.Byt
