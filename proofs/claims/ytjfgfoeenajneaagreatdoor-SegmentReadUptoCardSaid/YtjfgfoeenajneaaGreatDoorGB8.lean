/- The program's bytes of a segment. -/
import Derived.Test.YtjfgfoeenajneaaGreatDoorGB7
import Derived.Test.YtjfgfoeenajneaaGreatDoorGA5
import Derived.Test.YtjfgfoeenajneaaGreatDoorGB1
import Derived.Laws.OwnMore
namespace Go.Proofs.YtjfgfoeenajneaaGreatDoor.Sg
open Go.RowKit
open Go.Proofs.YtjfgfoeenajneaaGreatDoor.Lex (F)

def TI (s c : Nat) (A : Option Addr) (n : Nat) (xs : List Value) (u : World) : Prop := u.cell? ⟨s, 0, none⟩ = some (.int .u8 (c : Int)) ∧ Sl u A n xs
theorem TI.below {s c n : Nat} {A : Option Addr} {xs : List Value} {u u' : World} (h : TI s c A n xs u) (hb : Below u.heap.size u u') : TI s c A n xs u' := ⟨below_cell hb h.1, h.2.below hb⟩
theorem w2_below {w2 W : World} {base : Nat} (h : w2.heap.size = base) (hb : Below base w2 W) : Below w2.heap.size w2 W := by rw [h]; exact hb
theorem OwnB.lit2 (w : World) (base a b : Nat) (hz : base ≤ w.heap.size) (ha : a < 256) (hb : b < 256) : OwnB (w.alloc (.cells #[.int .u8 (a : Int), .int .u8 (b : Int)] 5)) base (.slice (some ⟨w.heap.size, 0, none⟩) 2 2) [UInt8.ofNat a, UInt8.ofNat b] := by
  have h := World.ownsRow_lit (base := base) (e := 5) (size := 1) w #[.int .u8 (a : Int), .int .u8 (b : Int)] 2 hz (by decide) rfl
  have h2 : (#[.int .u8 (a : Int), .int .u8 (b : Int)] : Array Value).toList = u8s (nats [UInt8.ofNat a, UInt8.ofNat b]) := by
    unfold u8s nats
    simp
    omega
  rw [h2] at h
  exact h
theorem conv_own {w : World} {base : Nat} {v : Value} {l : List UInt8} (h : OwnB w base v l) : (convert 29 9 v).run Tryz.prog w = .ok (.string (Bs l)) w := by
  obtain ⟨A, c, rfl, h1, h2⟩ := own_sl h
  exact conv_sl A l.length c l w h1 h2
theorem wp_conv {o : Oper} {a : Act} {K : Act → World → Prop} {w : World} (x : Operand) (ho : o.op = .convert 29 9 x) (v : Value) (hx : a.eval x = v) (l : List UInt8) (hc : (convert 29 9 v).run Tryz.prog w = .ok (.string (Bs l)) w)
    (h : K (a.put o.dst (.string (Bs l))) w) : o.wp Tryz.prog a w K F := by
  unfold Oper.wp execOp
  rw [ho]
  simp only [hx]
  simp [hc]
  exact h
theorem val_add {P : Program} {o : Oper} {a : Act} {x y : List UInt8} {p q : Operand} {t t' : TypeId} (ho : o.op = .binOp .add t p q t') (hx : a.eval p = .string (Bs x)) (hy : a.eval q = .string (Bs y)) (hl : x.length + y.length ≤ 9223372036854775807) :
    ∀ u, (execOp a.eval o).run P u = .ok (.value (.string (Bs (x ++ y)))) u := by
  intro u
  unfold execOp
  rw [ho]
  simp only [hx, hy, binOp_string_add]
  have := run_add_Bs P x y u hl
  simp [eqGuard, this]
theorem size13S : (Tryz.prog.info? 31).map (·.size) = some 13 := by kernel_rfl
set_option maxRecDepth 100000 in
set_option maxHeartbeats 32000000 in
theorem text_any (m : SegM) (vq vh vc vp vi : Value) (w : World) (hm : SegAt w m vq vh vc vp vi) (hok : SegOk m) :
    Calls Tryz.prog 17 #[.agg (segC m vq vh vc vp vi)] w (StrP w (textM m)) := by
  have hu : Blk (w.alloc (.cells (segC m vq vh vc vp vi) 31)) w.heap.size 31 (segC m vq vh vc vp vi) := Blk.new w _ _
  have hb : Below w.heap.size w (w.alloc (.cells (segC m vq vh vc vp vi) 31)) := (Below.refl _ _).alloc (Nat.le_refl _) _
  have hm1 := hm.below hb
  have HM := Lib.hid hm1; clear hm hm1
  have hcode := hok.code
  have hsay := textM_say m hcode
  have hplen : ∀ d, dataP m = .ok d → d.length ≤ 10000000000 := fun d h => dataP_len hok h
  have hbad : ∀ c, dataP m = .bad c → c ≠ 0 := fun c h => dataP_bad h
  have HOK := Lib.hid hok; clear hok
  have hszS : (Tryz.prog.info? 31).map (·.size) = some (segC m vq vh vc vp vi).size := size13S
  have g0 : (w.alloc (.cells (segC m vq vh vc vp vi) 31)).cell? ⟨w.heap.size, 0, none⟩ = some (.int .u8 (m.code : Nat)) := by rw [hu.cell]; rfl
  have HCALL := Lib.hid (fun u h => written_any m vq vh vc vp vi u h HOK.out)
  generalize hR : textM m = R at hsay ⊢
  generalize hD : dataP m = D at hsay hplen hbad HCALL
  clear hR hD
  generalize hcd : m.code = code at hcode hsay g0
  have HSAY := Lib.hid hsay; clear hsay hcd
  go_enter Tryz.func17, Tryz.ntmps17
  go_upto_region 1 with fail
  generalize (segC m vq vh vc vp vi) = sv at *
  generalize (w.alloc (.cells sv 31)) = w1 at *
  generalize hag : w.heap.size = s at g0 hu ⊢
  have HAG := Lib.hid hag; clear hag
  have HU := Lib.hid (And.intro hu hszS); clear hu hszS
  go_wp2_with fail
  refine (refused_any code w1 hcode).mono ?_
  rintro e w2 ⟨rfl, rfl⟩
  obtain ⟨rc, hrc⟩ : ∃ rc, refP code = rc := ⟨_, rfl⟩
  rw [hrc]
  have HRC := Lib.hid hrc; clear hrc
  by_cases h0 : rc = 0
  case neg =>
    have hres : R = .bad 151 := by rw [HSAY.out, HRC.out, if_neg h0]
    have HR := Lib.hid hres; clear hres
    have h0b : ((rc : Int) != 0) = true := by simpa using h0
    have h0c : ¬ ((rc : Int) = 0) := by omega
    go_wp2_with fail
    go_ret2
    exact ⟨by rw [HR.out]; rfl, hb⟩
  subst h0
  have hres : R = sayP code D := by rw [HSAY.out, HRC.out, if_pos rfl]
  have HR := Lib.hid hres; clear hres HSAY HRC
  go_wp2_with (refine wpList_load_row rfl _ _ rfl s rfl _ _ _ _ HU.out.1 Tryz.underlying31 rfl HU.out.2 ?_)
  refine (HCALL.out w1 HM.out).mono ?_
  rintro e w2 he
  cases D with
  | bad c =>
    obtain ⟨rfl, hb2⟩ := he
    have hb3 := below_then hb hb2
    have hres : R = .bad c := HR.out
    have hc0 : c ≠ 0 := hbad c rfl
    have HR := Lib.hid hres; clear hres
    have h0b : ((c : Int) != 0) = true := by simpa using hc0
    have h0c : ¬ ((c : Int) = 0) := by omega
    go_wp2_with fail
    go_ret2
    exact ⟨by rw [HR.out]; rfl, hb3⟩
  | ok d =>
  obtain ⟨A, cap, rfl, hsl, hA, hb2⟩ := he
  have HA := Lib.hid hA; clear hA
  have hdl := hplen d rfl
  have hb3 := below_then hb hb2
  have g0b := below_cell hb2 g0
  clear hb hb2 hplen hbad g0
  generalize hL : d.length = n at *
  have hb3' : Below w.heap.size w w2 := hb3
  have hres : R = if ((code = 219 ∨ code = 196) ∧ n = 0) ∨ 65533 < n then .bad 152 else .ok (255 :: UInt8.ofNat code :: (num2 (n + 2) ++ d)) := by rw [HR.out, ← hL]; rfl
  have HRR := Lib.hid hres; clear hres HR
  have HL := Lib.hid hL; clear hL
  have htail : ∀ c1 c2 : Bool, c1 = decide (code = 219) → c2 = decide (code = 196) → True := fun _ _ _ _ => trivial
  clear htail
  by_cases hbg : 65533 < n
  · have hr := HRR.out
    rw [if_pos (.inr hbg)] at hr
    have HR := Lib.hid hr; clear hr
    by_cases k1 : code = 219
    · subst k1
      go_wp2_with fail
      go_ret2
      exact ⟨by rw [HR.out]; rfl, hb3⟩
    by_cases k2 : code = 196
    · subst k2
      go_wp2_with fail
      go_ret2
      exact ⟨by rw [HR.out]; rfl, hb3⟩
    go_wp2_with fail
    go_ret2
    exact ⟨by rw [HR.out]; rfl, hb3⟩
  have hc5 : code = 219 ∨ code = 196 ∨ (code ≠ 219 ∧ code ≠ 196) := by omega
  rcases hc5 with rfl | rfl | ⟨k1, k2⟩
  · by_cases hn0 : n = 0
    · subst hn0
      have hr := HRR.out
      rw [if_pos (by omega)] at hr
      have HR := Lib.hid hr; clear hr
      go_wp2_with fail
      go_ret2
      exact ⟨by rw [HR.out]; rfl, hb3⟩
    have hn1 : ((n : Int) == 0) = false := by simp; omega
    have hn2 : ¬ (n : Int) = 0 := by omega
    have hbg2 : (n : Int) ≤ 65533 := by omega
    have hr := HRR.out
    rw [if_neg (by omega)] at hr
    have HR := Lib.hid hr; clear hr HRR
    go_upto_region 8 with fail
    have hwr : IntKind.i64.wrap ((n : Int) + 2) = n + 2 := by rw [IntKind.wrap_i64]; omega
    have hnn : ((n + 2 : Nat) : Int) = (n : Int) + 2 := by omega
    generalize hbs : w2.heap.size = base at hb3
    have hI : TI s 219 A n (u8s (nats d)) w2 := ⟨g0b, hsl⟩
    refine Lex6.wp_region_tree [] 13 rfl (TI s 219 A n (u8s (nats d))) (fun u n h => h) hI (by kernel_rfl) ?_
    have hJ0 : TI s 219 A n (u8s (nats d)) w2.drew := hI
    have hb0 : Below base w2 w2.drew := by rw [← hbs]; exact below_drewN (Below.refl _ _) 1
    have hz0 : base ≤ w2.drew.heap.size := by have := hb0.size; omega
    have HI := Lib.hid (And.intro hI hbs)
    clear hI hbs
    generalize w2.drew = W0 at hJ0 hb0 hz0 ⊢
    refine Lex6.takeL 0 (by rfl) (by kernel_rfl) (Lex6.free_ (v := ?_) (by rfl) (by rfl) (fun u => ?_) ?_); rotate_left; (go_simp; try with_reducible rfl); simp only [Act.put, zA, zB, zC]
    refine Lex6.takeL 1 (by rfl) (by kernel_rfl) (Lex6.load_ (v := ?_) (by rfl) (by rfl) (fun u hu => ?_) ?_); rotate_left; (obtain ⟨hu0, hu1⟩ := hu; go_simp; try with_reducible rfl); simp only [Act.put, zA, zB, zC]
    refine Lex6.takeL 3 (by rfl) (by kernel_rfl) (Lex6.free_ (v := ?_) (by rfl) (by rfl) (fun u => ?_) ?_); rotate_left; (go_simp; try with_reducible rfl); simp only [Act.put, zA, zB, zC]
    refine Lex6.takeL 4 (by rfl) (by kernel_rfl) (Lex6.free_ (v := ?_) (by rfl) (by rfl) (fun u => ?_) ?_); rotate_left; (go_simp; try with_reducible rfl); simp only [Act.put, zA, zB, zC]
    refine Lex6.takeL 5 (by rfl) (by kernel_rfl) (Lex6.free_ (v := ?_) (by rfl) (by rfl) (fun u => ?_) ?_); rotate_left; (go_simp; try with_reducible rfl); simp only [Act.put, zA, zB, zC]
    refine Lex6.takeL 8 (by rfl) (by kernel_rfl) (Lex6.free_ (v := ?_) (by rfl) (by rfl) (fun u => ?_) ?_); rotate_left; (go_simp; try with_reducible rfl); simp only [Act.put, zA, zB, zC]
    refine Lex6.bothL 2 9 (by rfl) (by rfl) (by kernel_rfl) ?_ ?_
    · refine Lex6.eff_ (by rfl) (by rfl) (fun n1 K1 hK1 => ?_)
      have hb1 := below_drewN hb0 n1
      have hz1 : base ≤ (W0.drewN n1).heap.size := hz0
      clear hb0 hz0
      generalize W0.drewN n1 = W1 at hb1 hz1 ⊢
      go_simp
      have ho2 := OwnB.lit2 W1 base 255 219 hz1 (by decide) (by omega)
      have hb2 : Below base w2 (W1.alloc (.cells #[.int .u8 255, .int .u8 (219 : Int)] 5)) := hb1.alloc hz1 _
      have hz2 : base ≤ (W1.alloc (.cells #[.int .u8 255, .int .u8 (219 : Int)] 5)).heap.size := by simp; omega
      refine hK1 _ _ (show TI s 219 A n (u8s (nats d)) _ from HI.out.1.below (by rw [HI.out.2]; exact hb2)) ?_
      clear hb1 hz1 hK1 K1
      generalize W1.alloc (.cells #[.int .u8 255, .int .u8 (219 : Int)] 5) = W2 at hb2 hz2 ho2 ⊢
      generalize Value.slice (some ⟨W1.heap.size, 0, none⟩) 2 2 = v2 at ho2 ⊢
      try simp only [Act.put, zA, zB, zC]
      refine Lex6.bothL 6 9 (by rfl) (by rfl) (by kernel_rfl) ?_ ?_
      · refine Lex6.eff_ (by rfl) (by rfl) (fun n3 K3 hK3 => ?_)
        have hb3 := below_drewN hb2 n3
        have hz3 : base ≤ (W2.drewN n3).heap.size := hz2
        have ho3 := ho2.drewd n3
        clear hb2 hz2 ho2
        generalize W2.drewN n3 = W3 at hb3 hz3 ho3 ⊢
        refine Lex6.wp_call (f := 54) (args := #[v2, .int .i64 ((n + 2 : Nat) : Int)]) (by rw [hnn]; go_simp; try rfl) (two_nb base v2 [255, UInt8.ofNat 219] (n + 2) W3 ho3 hz3 (by omega) (by simp)) ?_
        rintro e4 W4 ⟨v4, rfl, ho4, hgr4, _⟩
        have hb4 : Below base w2 W4 := by have h1 := own_grown_to (a := w2) (base := base) (by rw [HI.out.2]; exact hb3) ho3 (by rw [HI.out.2]; exact Nat.le_refl _) hgr4; rw [HI.out.2] at h1; exact h1
        have hz4 : base ≤ W4.heap.size := by have := hb4.size; have := HI.out.2; omega
        refine ⟨_, rfl, hK3 _ _ (show TI s 219 A n (u8s (nats d)) _ from HI.out.1.below (by rw [HI.out.2]; exact hb4)) ?_⟩
        clear ho3 hb3 hz3 hgr4 hK3 K3
        try simp only [Act.put, zA, zB, zC]
        refine Lex6.bothL 7 9 (by rfl) (by rfl) (by kernel_rfl) ?_ ?_
        · refine Lex6.eff_ (by rfl) (by rfl) (fun n5 K5 hK5 => ?_)
          have hb5 := below_drewN hb4 n5
          have hz5 : base ≤ (W4.drewN n5).heap.size := hz4
          have ho5 := ho4.drewd n5
          clear hb4 hz4 ho4
          generalize W4.drewN n5 = W5 at hb5 hz5 ho5 ⊢
          refine wp_conv (.tmp 42) (by rfl) v4 (by rfl) ([255, UInt8.ofNat 219] ++ num2 (n + 2)) (conv_own ho5) ?_
          refine hK5 _ _ (show TI s 219 A n (u8s (nats d)) _ from HI.out.1.below (by rw [HI.out.2]; exact hb5)) ?_
          clear hK5 K5
          try simp only [Act.put, zA, zB, zC]
          refine Lex6.oneL 9 (by rfl) (by kernel_rfl) ?_
          refine Lex6.eff_ (by rfl) (by rfl) (fun n7 K7 hK7 => ?_)
          have hb7 := below_drewN hb5 n7
          have hz7 : base ≤ (W5.drewN n7).heap.size := hz5
          have ho7 := ho5.drewd n7
          clear hb5 hz5 ho5
          generalize W5.drewN n7 = W7 at hb7 hz7 ho7 ⊢
          refine wp_conv (.tmp 44) (by rfl) (.slice A n cap) (by rfl) d (conv_sl A n cap d W7 ((show TI s 219 A n (u8s (nats d)) _ from HI.out.1.below (by rw [HI.out.2]; exact hb7))).2 HA.out) ?_
          refine hK7 _ _ (show TI s 219 A n (u8s (nats d)) _ from HI.out.1.below (by rw [HI.out.2]; exact hb7)) ?_
          clear hK7 K7
          try simp only [Act.put, zA, zB, zC]
          refine Lex6.oneL 10 (by rfl) (by kernel_rfl) (Lex6.free_ (v := .string (Bs (([255, UInt8.ofNat 219] ++ num2 (n + 2)) ++ d))) (by rfl) (by rfl) (val_add rfl rfl rfl (by simp only [List.length_append, List.length_cons, List.length_nil, show ∀ z, (num2 z).length = 2 from fun _ => rfl]; have := HL.out; omega)) ?_); simp only [Act.put, zA, zB, zC]
          refine Lex6.takeL 11 (by rfl) (by kernel_rfl) (Lex6.free_ (v := ?_) (by rfl) (by rfl) (fun u => ?_) ?_); rotate_left; (go_simp; try with_reducible rfl); simp only [Act.put, zA, zB, zC]
          refine Lex6.oneL 12 (by rfl) (by kernel_rfl) (Lex6.free_ (v := ?_) (by rfl) (by rfl) (fun u => ?_) ?_); rotate_left; (go_simp; try with_reducible rfl); simp only [Act.put, zA, zB, zC]
          refine Lex6.done (by kernel_rfl) (fun n9 => ?_)
          have hb9 := below_then hb3 (w2_below HI.out.2 (below_drewN hb7 n9))
          clear hb7 hz7
          generalize W7.drewN n9 = w9 at hb9 ⊢
          go_wp2_with fail
          go_ret2
          exact ⟨by rw [HR.out]; show _ = Ending.returned _; simp [num2], hb9⟩
        · refine Lex6.eff_ (by rfl) (by rfl) (fun n9 K9 hK9 => ?_)
          have hb9 := below_drewN hb4 n9
          have hz9 : base ≤ (W4.drewN n9).heap.size := hz4
          have ho9 := ho4.drewd n9
          clear hb4 hz4 ho4
          generalize W4.drewN n9 = W9 at hb9 hz9 ho9 ⊢
          refine wp_conv (.tmp 44) (by rfl) (.slice A n cap) (by rfl) d (conv_sl A n cap d W9 ((show TI s 219 A n (u8s (nats d)) _ from HI.out.1.below (by rw [HI.out.2]; exact hb9))).2 HA.out) ?_
          refine hK9 _ _ (show TI s 219 A n (u8s (nats d)) _ from HI.out.1.below (by rw [HI.out.2]; exact hb9)) ?_
          clear hK9 K9
          try simp only [Act.put, zA, zB, zC]
          refine Lex6.oneL 7 (by rfl) (by kernel_rfl) ?_
          refine Lex6.eff_ (by rfl) (by rfl) (fun n11 K11 hK11 => ?_)
          have hb11 := below_drewN hb9 n11
          have hz11 : base ≤ (W9.drewN n11).heap.size := hz9
          have ho11 := ho9.drewd n11
          clear hb9 hz9 ho9
          generalize W9.drewN n11 = W11 at hb11 hz11 ho11 ⊢
          refine wp_conv (.tmp 42) (by rfl) v4 (by rfl) ([255, UInt8.ofNat 219] ++ num2 (n + 2)) (conv_own ho11) ?_
          refine hK11 _ _ (show TI s 219 A n (u8s (nats d)) _ from HI.out.1.below (by rw [HI.out.2]; exact hb11)) ?_
          clear hK11 K11
          try simp only [Act.put, zA, zB, zC]
          refine Lex6.oneL 10 (by rfl) (by kernel_rfl) (Lex6.free_ (v := .string (Bs (([255, UInt8.ofNat 219] ++ num2 (n + 2)) ++ d))) (by rfl) (by rfl) (val_add rfl rfl rfl (by simp only [List.length_append, List.length_cons, List.length_nil, show ∀ z, (num2 z).length = 2 from fun _ => rfl]; have := HL.out; omega)) ?_); simp only [Act.put, zA, zB, zC]
          refine Lex6.takeL 11 (by rfl) (by kernel_rfl) (Lex6.free_ (v := ?_) (by rfl) (by rfl) (fun u => ?_) ?_); rotate_left; (go_simp; try with_reducible rfl); simp only [Act.put, zA, zB, zC]
          refine Lex6.oneL 12 (by rfl) (by kernel_rfl) (Lex6.free_ (v := ?_) (by rfl) (by rfl) (fun u => ?_) ?_); rotate_left; (go_simp; try with_reducible rfl); simp only [Act.put, zA, zB, zC]
          refine Lex6.done (by kernel_rfl) (fun n9 => ?_)
          have hb9 := below_then hb3 (w2_below HI.out.2 (below_drewN hb11 n9))
          clear hb11 hz11
          generalize W11.drewN n9 = w9 at hb9 ⊢
          go_wp2_with fail
          go_ret2
          exact ⟨by rw [HR.out]; show _ = Ending.returned _; simp [num2], hb9⟩
      · refine Lex6.eff_ (by rfl) (by rfl) (fun n13 K13 hK13 => ?_)
        have hb13 := below_drewN hb2 n13
        have hz13 : base ≤ (W2.drewN n13).heap.size := hz2
        have ho13 := ho2.drewd n13
        clear hb2 hz2 ho2
        generalize W2.drewN n13 = W13 at hb13 hz13 ho13 ⊢
        refine wp_conv (.tmp 44) (by rfl) (.slice A n cap) (by rfl) d (conv_sl A n cap d W13 ((show TI s 219 A n (u8s (nats d)) _ from HI.out.1.below (by rw [HI.out.2]; exact hb13))).2 HA.out) ?_
        refine hK13 _ _ (show TI s 219 A n (u8s (nats d)) _ from HI.out.1.below (by rw [HI.out.2]; exact hb13)) ?_
        clear hK13 K13
        try simp only [Act.put, zA, zB, zC]
        refine Lex6.oneL 6 (by rfl) (by kernel_rfl) ?_
        refine Lex6.eff_ (by rfl) (by rfl) (fun n15 K15 hK15 => ?_)
        have hb15 := below_drewN hb13 n15
        have hz15 : base ≤ (W13.drewN n15).heap.size := hz13
        have ho15 := ho13.drewd n15
        clear hb13 hz13 ho13
        generalize W13.drewN n15 = W15 at hb15 hz15 ho15 ⊢
        refine Lex6.wp_call (f := 54) (args := #[v2, .int .i64 ((n + 2 : Nat) : Int)]) (by rw [hnn]; go_simp; try rfl) (two_nb base v2 [255, UInt8.ofNat 219] (n + 2) W15 ho15 hz15 (by omega) (by simp)) ?_
        rintro e16 W16 ⟨v16, rfl, ho16, hgr16, _⟩
        have hb16 : Below base w2 W16 := by have h1 := own_grown_to (a := w2) (base := base) (by rw [HI.out.2]; exact hb15) ho15 (by rw [HI.out.2]; exact Nat.le_refl _) hgr16; rw [HI.out.2] at h1; exact h1
        have hz16 : base ≤ W16.heap.size := by have := hb16.size; have := HI.out.2; omega
        refine ⟨_, rfl, hK15 _ _ (show TI s 219 A n (u8s (nats d)) _ from HI.out.1.below (by rw [HI.out.2]; exact hb16)) ?_⟩
        clear ho15 hb15 hz15 hgr16 hK15 K15
        try simp only [Act.put, zA, zB, zC]
        refine Lex6.oneL 7 (by rfl) (by kernel_rfl) ?_
        refine Lex6.eff_ (by rfl) (by rfl) (fun n17 K17 hK17 => ?_)
        have hb17 := below_drewN hb16 n17
        have hz17 : base ≤ (W16.drewN n17).heap.size := hz16
        have ho17 := ho16.drewd n17
        clear hb16 hz16 ho16
        generalize W16.drewN n17 = W17 at hb17 hz17 ho17 ⊢
        refine wp_conv (.tmp 42) (by rfl) v16 (by rfl) ([255, UInt8.ofNat 219] ++ num2 (n + 2)) (conv_own ho17) ?_
        refine hK17 _ _ (show TI s 219 A n (u8s (nats d)) _ from HI.out.1.below (by rw [HI.out.2]; exact hb17)) ?_
        clear hK17 K17
        try simp only [Act.put, zA, zB, zC]
        refine Lex6.oneL 10 (by rfl) (by kernel_rfl) (Lex6.free_ (v := .string (Bs (([255, UInt8.ofNat 219] ++ num2 (n + 2)) ++ d))) (by rfl) (by rfl) (val_add rfl rfl rfl (by simp only [List.length_append, List.length_cons, List.length_nil, show ∀ z, (num2 z).length = 2 from fun _ => rfl]; have := HL.out; omega)) ?_); simp only [Act.put, zA, zB, zC]
        refine Lex6.takeL 11 (by rfl) (by kernel_rfl) (Lex6.free_ (v := ?_) (by rfl) (by rfl) (fun u => ?_) ?_); rotate_left; (go_simp; try with_reducible rfl); simp only [Act.put, zA, zB, zC]
        refine Lex6.oneL 12 (by rfl) (by kernel_rfl) (Lex6.free_ (v := ?_) (by rfl) (by rfl) (fun u => ?_) ?_); rotate_left; (go_simp; try with_reducible rfl); simp only [Act.put, zA, zB, zC]
        refine Lex6.done (by kernel_rfl) (fun n9 => ?_)
        have hb9 := below_then hb3 (w2_below HI.out.2 (below_drewN hb17 n9))
        clear hb17 hz17
        generalize W17.drewN n9 = w9 at hb9 ⊢
        go_wp2_with fail
        go_ret2
        exact ⟨by rw [HR.out]; show _ = Ending.returned _; simp [num2], hb9⟩
    · refine Lex6.eff_ (by rfl) (by rfl) (fun n19 K19 hK19 => ?_)
      have hb19 := below_drewN hb0 n19
      have hz19 : base ≤ (W0.drewN n19).heap.size := hz0
      clear hb0 hz0
      generalize W0.drewN n19 = W19 at hb19 hz19 ⊢
      refine wp_conv (.tmp 44) (by rfl) (.slice A n cap) (by rfl) d (conv_sl A n cap d W19 ((show TI s 219 A n (u8s (nats d)) _ from HI.out.1.below (by rw [HI.out.2]; exact hb19))).2 HA.out) ?_
      refine hK19 _ _ (show TI s 219 A n (u8s (nats d)) _ from HI.out.1.below (by rw [HI.out.2]; exact hb19)) ?_
      clear hK19 K19
      try simp only [Act.put, zA, zB, zC]
      refine Lex6.oneL 2 (by rfl) (by kernel_rfl) ?_
      refine Lex6.eff_ (by rfl) (by rfl) (fun n21 K21 hK21 => ?_)
      have hb21 := below_drewN hb19 n21
      have hz21 : base ≤ (W19.drewN n21).heap.size := hz19
      clear hb19 hz19
      generalize W19.drewN n21 = W21 at hb21 hz21 ⊢
      go_simp
      have ho22 := OwnB.lit2 W21 base 255 219 hz21 (by decide) (by omega)
      have hb22 : Below base w2 (W21.alloc (.cells #[.int .u8 255, .int .u8 (219 : Int)] 5)) := hb21.alloc hz21 _
      have hz22 : base ≤ (W21.alloc (.cells #[.int .u8 255, .int .u8 (219 : Int)] 5)).heap.size := by simp; omega
      refine hK21 _ _ (show TI s 219 A n (u8s (nats d)) _ from HI.out.1.below (by rw [HI.out.2]; exact hb22)) ?_
      clear hb21 hz21 hK21 K21
      generalize W21.alloc (.cells #[.int .u8 255, .int .u8 (219 : Int)] 5) = W22 at hb22 hz22 ho22 ⊢
      generalize Value.slice (some ⟨W21.heap.size, 0, none⟩) 2 2 = v22 at ho22 ⊢
      try simp only [Act.put, zA, zB, zC]
      refine Lex6.oneL 6 (by rfl) (by kernel_rfl) ?_
      refine Lex6.eff_ (by rfl) (by rfl) (fun n23 K23 hK23 => ?_)
      have hb23 := below_drewN hb22 n23
      have hz23 : base ≤ (W22.drewN n23).heap.size := hz22
      have ho23 := ho22.drewd n23
      clear hb22 hz22 ho22
      generalize W22.drewN n23 = W23 at hb23 hz23 ho23 ⊢
      refine Lex6.wp_call (f := 54) (args := #[v22, .int .i64 ((n + 2 : Nat) : Int)]) (by rw [hnn]; go_simp; try rfl) (two_nb base v22 [255, UInt8.ofNat 219] (n + 2) W23 ho23 hz23 (by omega) (by simp)) ?_
      rintro e24 W24 ⟨v24, rfl, ho24, hgr24, _⟩
      have hb24 : Below base w2 W24 := by have h1 := own_grown_to (a := w2) (base := base) (by rw [HI.out.2]; exact hb23) ho23 (by rw [HI.out.2]; exact Nat.le_refl _) hgr24; rw [HI.out.2] at h1; exact h1
      have hz24 : base ≤ W24.heap.size := by have := hb24.size; have := HI.out.2; omega
      refine ⟨_, rfl, hK23 _ _ (show TI s 219 A n (u8s (nats d)) _ from HI.out.1.below (by rw [HI.out.2]; exact hb24)) ?_⟩
      clear ho23 hb23 hz23 hgr24 hK23 K23
      try simp only [Act.put, zA, zB, zC]
      refine Lex6.oneL 7 (by rfl) (by kernel_rfl) ?_
      refine Lex6.eff_ (by rfl) (by rfl) (fun n25 K25 hK25 => ?_)
      have hb25 := below_drewN hb24 n25
      have hz25 : base ≤ (W24.drewN n25).heap.size := hz24
      have ho25 := ho24.drewd n25
      clear hb24 hz24 ho24
      generalize W24.drewN n25 = W25 at hb25 hz25 ho25 ⊢
      refine wp_conv (.tmp 42) (by rfl) v24 (by rfl) ([255, UInt8.ofNat 219] ++ num2 (n + 2)) (conv_own ho25) ?_
      refine hK25 _ _ (show TI s 219 A n (u8s (nats d)) _ from HI.out.1.below (by rw [HI.out.2]; exact hb25)) ?_
      clear hK25 K25
      try simp only [Act.put, zA, zB, zC]
      refine Lex6.oneL 10 (by rfl) (by kernel_rfl) (Lex6.free_ (v := .string (Bs (([255, UInt8.ofNat 219] ++ num2 (n + 2)) ++ d))) (by rfl) (by rfl) (val_add rfl rfl rfl (by simp only [List.length_append, List.length_cons, List.length_nil, show ∀ z, (num2 z).length = 2 from fun _ => rfl]; have := HL.out; omega)) ?_); simp only [Act.put, zA, zB, zC]
      refine Lex6.takeL 11 (by rfl) (by kernel_rfl) (Lex6.free_ (v := ?_) (by rfl) (by rfl) (fun u => ?_) ?_); rotate_left; (go_simp; try with_reducible rfl); simp only [Act.put, zA, zB, zC]
      refine Lex6.oneL 12 (by rfl) (by kernel_rfl) (Lex6.free_ (v := ?_) (by rfl) (by rfl) (fun u => ?_) ?_); rotate_left; (go_simp; try with_reducible rfl); simp only [Act.put, zA, zB, zC]
      refine Lex6.done (by kernel_rfl) (fun n9 => ?_)
      have hb9 := below_then hb3 (w2_below HI.out.2 (below_drewN hb25 n9))
      clear hb25 hz25
      generalize W25.drewN n9 = w9 at hb9 ⊢
      go_wp2_with fail
      go_ret2
      exact ⟨by rw [HR.out]; show _ = Ending.returned _; simp [num2], hb9⟩
  · by_cases hn0 : n = 0
    · subst hn0
      have hr := HRR.out
      rw [if_pos (by omega)] at hr
      have HR := Lib.hid hr; clear hr
      go_wp2_with fail
      go_ret2
      exact ⟨by rw [HR.out]; rfl, hb3⟩
    have hn1 : ((n : Int) == 0) = false := by simp; omega
    have hn2 : ¬ (n : Int) = 0 := by omega
    have hbg2 : (n : Int) ≤ 65533 := by omega
    have hr := HRR.out
    rw [if_neg (by omega)] at hr
    have HR := Lib.hid hr; clear hr HRR
    go_upto_region 8 with fail
    have hwr : IntKind.i64.wrap ((n : Int) + 2) = n + 2 := by rw [IntKind.wrap_i64]; omega
    have hnn : ((n + 2 : Nat) : Int) = (n : Int) + 2 := by omega
    generalize hbs : w2.heap.size = base at hb3
    have hI : TI s 196 A n (u8s (nats d)) w2 := ⟨g0b, hsl⟩
    refine Lex6.wp_region_tree [] 13 rfl (TI s 196 A n (u8s (nats d))) (fun u n h => h) hI (by kernel_rfl) ?_
    have hJ0 : TI s 196 A n (u8s (nats d)) w2.drew := hI
    have hb0 : Below base w2 w2.drew := by rw [← hbs]; exact below_drewN (Below.refl _ _) 1
    have hz0 : base ≤ w2.drew.heap.size := by have := hb0.size; omega
    have HI := Lib.hid (And.intro hI hbs)
    clear hI hbs
    generalize w2.drew = W0 at hJ0 hb0 hz0 ⊢
    refine Lex6.takeL 0 (by rfl) (by kernel_rfl) (Lex6.free_ (v := ?_) (by rfl) (by rfl) (fun u => ?_) ?_); rotate_left; (go_simp; try with_reducible rfl); simp only [Act.put, zA, zB, zC]
    refine Lex6.takeL 1 (by rfl) (by kernel_rfl) (Lex6.load_ (v := ?_) (by rfl) (by rfl) (fun u hu => ?_) ?_); rotate_left; (obtain ⟨hu0, hu1⟩ := hu; go_simp; try with_reducible rfl); simp only [Act.put, zA, zB, zC]
    refine Lex6.takeL 3 (by rfl) (by kernel_rfl) (Lex6.free_ (v := ?_) (by rfl) (by rfl) (fun u => ?_) ?_); rotate_left; (go_simp; try with_reducible rfl); simp only [Act.put, zA, zB, zC]
    refine Lex6.takeL 4 (by rfl) (by kernel_rfl) (Lex6.free_ (v := ?_) (by rfl) (by rfl) (fun u => ?_) ?_); rotate_left; (go_simp; try with_reducible rfl); simp only [Act.put, zA, zB, zC]
    refine Lex6.takeL 5 (by rfl) (by kernel_rfl) (Lex6.free_ (v := ?_) (by rfl) (by rfl) (fun u => ?_) ?_); rotate_left; (go_simp; try with_reducible rfl); simp only [Act.put, zA, zB, zC]
    refine Lex6.takeL 8 (by rfl) (by kernel_rfl) (Lex6.free_ (v := ?_) (by rfl) (by rfl) (fun u => ?_) ?_); rotate_left; (go_simp; try with_reducible rfl); simp only [Act.put, zA, zB, zC]
    refine Lex6.bothL 2 9 (by rfl) (by rfl) (by kernel_rfl) ?_ ?_
    · refine Lex6.eff_ (by rfl) (by rfl) (fun n1 K1 hK1 => ?_)
      have hb1 := below_drewN hb0 n1
      have hz1 : base ≤ (W0.drewN n1).heap.size := hz0
      clear hb0 hz0
      generalize W0.drewN n1 = W1 at hb1 hz1 ⊢
      go_simp
      have ho2 := OwnB.lit2 W1 base 255 196 hz1 (by decide) (by omega)
      have hb2 : Below base w2 (W1.alloc (.cells #[.int .u8 255, .int .u8 (196 : Int)] 5)) := hb1.alloc hz1 _
      have hz2 : base ≤ (W1.alloc (.cells #[.int .u8 255, .int .u8 (196 : Int)] 5)).heap.size := by simp; omega
      refine hK1 _ _ (show TI s 196 A n (u8s (nats d)) _ from HI.out.1.below (by rw [HI.out.2]; exact hb2)) ?_
      clear hb1 hz1 hK1 K1
      generalize W1.alloc (.cells #[.int .u8 255, .int .u8 (196 : Int)] 5) = W2 at hb2 hz2 ho2 ⊢
      generalize Value.slice (some ⟨W1.heap.size, 0, none⟩) 2 2 = v2 at ho2 ⊢
      try simp only [Act.put, zA, zB, zC]
      refine Lex6.bothL 6 9 (by rfl) (by rfl) (by kernel_rfl) ?_ ?_
      · refine Lex6.eff_ (by rfl) (by rfl) (fun n3 K3 hK3 => ?_)
        have hb3 := below_drewN hb2 n3
        have hz3 : base ≤ (W2.drewN n3).heap.size := hz2
        have ho3 := ho2.drewd n3
        clear hb2 hz2 ho2
        generalize W2.drewN n3 = W3 at hb3 hz3 ho3 ⊢
        refine Lex6.wp_call (f := 54) (args := #[v2, .int .i64 ((n + 2 : Nat) : Int)]) (by rw [hnn]; go_simp; try rfl) (two_nb base v2 [255, UInt8.ofNat 196] (n + 2) W3 ho3 hz3 (by omega) (by simp)) ?_
        rintro e4 W4 ⟨v4, rfl, ho4, hgr4, _⟩
        have hb4 : Below base w2 W4 := by have h1 := own_grown_to (a := w2) (base := base) (by rw [HI.out.2]; exact hb3) ho3 (by rw [HI.out.2]; exact Nat.le_refl _) hgr4; rw [HI.out.2] at h1; exact h1
        have hz4 : base ≤ W4.heap.size := by have := hb4.size; have := HI.out.2; omega
        refine ⟨_, rfl, hK3 _ _ (show TI s 196 A n (u8s (nats d)) _ from HI.out.1.below (by rw [HI.out.2]; exact hb4)) ?_⟩
        clear ho3 hb3 hz3 hgr4 hK3 K3
        try simp only [Act.put, zA, zB, zC]
        refine Lex6.bothL 7 9 (by rfl) (by rfl) (by kernel_rfl) ?_ ?_
        · refine Lex6.eff_ (by rfl) (by rfl) (fun n5 K5 hK5 => ?_)
          have hb5 := below_drewN hb4 n5
          have hz5 : base ≤ (W4.drewN n5).heap.size := hz4
          have ho5 := ho4.drewd n5
          clear hb4 hz4 ho4
          generalize W4.drewN n5 = W5 at hb5 hz5 ho5 ⊢
          refine wp_conv (.tmp 42) (by rfl) v4 (by rfl) ([255, UInt8.ofNat 196] ++ num2 (n + 2)) (conv_own ho5) ?_
          refine hK5 _ _ (show TI s 196 A n (u8s (nats d)) _ from HI.out.1.below (by rw [HI.out.2]; exact hb5)) ?_
          clear hK5 K5
          try simp only [Act.put, zA, zB, zC]
          refine Lex6.oneL 9 (by rfl) (by kernel_rfl) ?_
          refine Lex6.eff_ (by rfl) (by rfl) (fun n7 K7 hK7 => ?_)
          have hb7 := below_drewN hb5 n7
          have hz7 : base ≤ (W5.drewN n7).heap.size := hz5
          have ho7 := ho5.drewd n7
          clear hb5 hz5 ho5
          generalize W5.drewN n7 = W7 at hb7 hz7 ho7 ⊢
          refine wp_conv (.tmp 44) (by rfl) (.slice A n cap) (by rfl) d (conv_sl A n cap d W7 ((show TI s 196 A n (u8s (nats d)) _ from HI.out.1.below (by rw [HI.out.2]; exact hb7))).2 HA.out) ?_
          refine hK7 _ _ (show TI s 196 A n (u8s (nats d)) _ from HI.out.1.below (by rw [HI.out.2]; exact hb7)) ?_
          clear hK7 K7
          try simp only [Act.put, zA, zB, zC]
          refine Lex6.oneL 10 (by rfl) (by kernel_rfl) (Lex6.free_ (v := .string (Bs (([255, UInt8.ofNat 196] ++ num2 (n + 2)) ++ d))) (by rfl) (by rfl) (val_add rfl rfl rfl (by simp only [List.length_append, List.length_cons, List.length_nil, show ∀ z, (num2 z).length = 2 from fun _ => rfl]; have := HL.out; omega)) ?_); simp only [Act.put, zA, zB, zC]
          refine Lex6.takeL 11 (by rfl) (by kernel_rfl) (Lex6.free_ (v := ?_) (by rfl) (by rfl) (fun u => ?_) ?_); rotate_left; (go_simp; try with_reducible rfl); simp only [Act.put, zA, zB, zC]
          refine Lex6.oneL 12 (by rfl) (by kernel_rfl) (Lex6.free_ (v := ?_) (by rfl) (by rfl) (fun u => ?_) ?_); rotate_left; (go_simp; try with_reducible rfl); simp only [Act.put, zA, zB, zC]
          refine Lex6.done (by kernel_rfl) (fun n9 => ?_)
          have hb9 := below_then hb3 (w2_below HI.out.2 (below_drewN hb7 n9))
          clear hb7 hz7
          generalize W7.drewN n9 = w9 at hb9 ⊢
          go_wp2_with fail
          go_ret2
          exact ⟨by rw [HR.out]; show _ = Ending.returned _; simp [num2], hb9⟩
        · refine Lex6.eff_ (by rfl) (by rfl) (fun n9 K9 hK9 => ?_)
          have hb9 := below_drewN hb4 n9
          have hz9 : base ≤ (W4.drewN n9).heap.size := hz4
          have ho9 := ho4.drewd n9
          clear hb4 hz4 ho4
          generalize W4.drewN n9 = W9 at hb9 hz9 ho9 ⊢
          refine wp_conv (.tmp 44) (by rfl) (.slice A n cap) (by rfl) d (conv_sl A n cap d W9 ((show TI s 196 A n (u8s (nats d)) _ from HI.out.1.below (by rw [HI.out.2]; exact hb9))).2 HA.out) ?_
          refine hK9 _ _ (show TI s 196 A n (u8s (nats d)) _ from HI.out.1.below (by rw [HI.out.2]; exact hb9)) ?_
          clear hK9 K9
          try simp only [Act.put, zA, zB, zC]
          refine Lex6.oneL 7 (by rfl) (by kernel_rfl) ?_
          refine Lex6.eff_ (by rfl) (by rfl) (fun n11 K11 hK11 => ?_)
          have hb11 := below_drewN hb9 n11
          have hz11 : base ≤ (W9.drewN n11).heap.size := hz9
          have ho11 := ho9.drewd n11
          clear hb9 hz9 ho9
          generalize W9.drewN n11 = W11 at hb11 hz11 ho11 ⊢
          refine wp_conv (.tmp 42) (by rfl) v4 (by rfl) ([255, UInt8.ofNat 196] ++ num2 (n + 2)) (conv_own ho11) ?_
          refine hK11 _ _ (show TI s 196 A n (u8s (nats d)) _ from HI.out.1.below (by rw [HI.out.2]; exact hb11)) ?_
          clear hK11 K11
          try simp only [Act.put, zA, zB, zC]
          refine Lex6.oneL 10 (by rfl) (by kernel_rfl) (Lex6.free_ (v := .string (Bs (([255, UInt8.ofNat 196] ++ num2 (n + 2)) ++ d))) (by rfl) (by rfl) (val_add rfl rfl rfl (by simp only [List.length_append, List.length_cons, List.length_nil, show ∀ z, (num2 z).length = 2 from fun _ => rfl]; have := HL.out; omega)) ?_); simp only [Act.put, zA, zB, zC]
          refine Lex6.takeL 11 (by rfl) (by kernel_rfl) (Lex6.free_ (v := ?_) (by rfl) (by rfl) (fun u => ?_) ?_); rotate_left; (go_simp; try with_reducible rfl); simp only [Act.put, zA, zB, zC]
          refine Lex6.oneL 12 (by rfl) (by kernel_rfl) (Lex6.free_ (v := ?_) (by rfl) (by rfl) (fun u => ?_) ?_); rotate_left; (go_simp; try with_reducible rfl); simp only [Act.put, zA, zB, zC]
          refine Lex6.done (by kernel_rfl) (fun n9 => ?_)
          have hb9 := below_then hb3 (w2_below HI.out.2 (below_drewN hb11 n9))
          clear hb11 hz11
          generalize W11.drewN n9 = w9 at hb9 ⊢
          go_wp2_with fail
          go_ret2
          exact ⟨by rw [HR.out]; show _ = Ending.returned _; simp [num2], hb9⟩
      · refine Lex6.eff_ (by rfl) (by rfl) (fun n13 K13 hK13 => ?_)
        have hb13 := below_drewN hb2 n13
        have hz13 : base ≤ (W2.drewN n13).heap.size := hz2
        have ho13 := ho2.drewd n13
        clear hb2 hz2 ho2
        generalize W2.drewN n13 = W13 at hb13 hz13 ho13 ⊢
        refine wp_conv (.tmp 44) (by rfl) (.slice A n cap) (by rfl) d (conv_sl A n cap d W13 ((show TI s 196 A n (u8s (nats d)) _ from HI.out.1.below (by rw [HI.out.2]; exact hb13))).2 HA.out) ?_
        refine hK13 _ _ (show TI s 196 A n (u8s (nats d)) _ from HI.out.1.below (by rw [HI.out.2]; exact hb13)) ?_
        clear hK13 K13
        try simp only [Act.put, zA, zB, zC]
        refine Lex6.oneL 6 (by rfl) (by kernel_rfl) ?_
        refine Lex6.eff_ (by rfl) (by rfl) (fun n15 K15 hK15 => ?_)
        have hb15 := below_drewN hb13 n15
        have hz15 : base ≤ (W13.drewN n15).heap.size := hz13
        have ho15 := ho13.drewd n15
        clear hb13 hz13 ho13
        generalize W13.drewN n15 = W15 at hb15 hz15 ho15 ⊢
        refine Lex6.wp_call (f := 54) (args := #[v2, .int .i64 ((n + 2 : Nat) : Int)]) (by rw [hnn]; go_simp; try rfl) (two_nb base v2 [255, UInt8.ofNat 196] (n + 2) W15 ho15 hz15 (by omega) (by simp)) ?_
        rintro e16 W16 ⟨v16, rfl, ho16, hgr16, _⟩
        have hb16 : Below base w2 W16 := by have h1 := own_grown_to (a := w2) (base := base) (by rw [HI.out.2]; exact hb15) ho15 (by rw [HI.out.2]; exact Nat.le_refl _) hgr16; rw [HI.out.2] at h1; exact h1
        have hz16 : base ≤ W16.heap.size := by have := hb16.size; have := HI.out.2; omega
        refine ⟨_, rfl, hK15 _ _ (show TI s 196 A n (u8s (nats d)) _ from HI.out.1.below (by rw [HI.out.2]; exact hb16)) ?_⟩
        clear ho15 hb15 hz15 hgr16 hK15 K15
        try simp only [Act.put, zA, zB, zC]
        refine Lex6.oneL 7 (by rfl) (by kernel_rfl) ?_
        refine Lex6.eff_ (by rfl) (by rfl) (fun n17 K17 hK17 => ?_)
        have hb17 := below_drewN hb16 n17
        have hz17 : base ≤ (W16.drewN n17).heap.size := hz16
        have ho17 := ho16.drewd n17
        clear hb16 hz16 ho16
        generalize W16.drewN n17 = W17 at hb17 hz17 ho17 ⊢
        refine wp_conv (.tmp 42) (by rfl) v16 (by rfl) ([255, UInt8.ofNat 196] ++ num2 (n + 2)) (conv_own ho17) ?_
        refine hK17 _ _ (show TI s 196 A n (u8s (nats d)) _ from HI.out.1.below (by rw [HI.out.2]; exact hb17)) ?_
        clear hK17 K17
        try simp only [Act.put, zA, zB, zC]
        refine Lex6.oneL 10 (by rfl) (by kernel_rfl) (Lex6.free_ (v := .string (Bs (([255, UInt8.ofNat 196] ++ num2 (n + 2)) ++ d))) (by rfl) (by rfl) (val_add rfl rfl rfl (by simp only [List.length_append, List.length_cons, List.length_nil, show ∀ z, (num2 z).length = 2 from fun _ => rfl]; have := HL.out; omega)) ?_); simp only [Act.put, zA, zB, zC]
        refine Lex6.takeL 11 (by rfl) (by kernel_rfl) (Lex6.free_ (v := ?_) (by rfl) (by rfl) (fun u => ?_) ?_); rotate_left; (go_simp; try with_reducible rfl); simp only [Act.put, zA, zB, zC]
        refine Lex6.oneL 12 (by rfl) (by kernel_rfl) (Lex6.free_ (v := ?_) (by rfl) (by rfl) (fun u => ?_) ?_); rotate_left; (go_simp; try with_reducible rfl); simp only [Act.put, zA, zB, zC]
        refine Lex6.done (by kernel_rfl) (fun n9 => ?_)
        have hb9 := below_then hb3 (w2_below HI.out.2 (below_drewN hb17 n9))
        clear hb17 hz17
        generalize W17.drewN n9 = w9 at hb9 ⊢
        go_wp2_with fail
        go_ret2
        exact ⟨by rw [HR.out]; show _ = Ending.returned _; simp [num2], hb9⟩
    · refine Lex6.eff_ (by rfl) (by rfl) (fun n19 K19 hK19 => ?_)
      have hb19 := below_drewN hb0 n19
      have hz19 : base ≤ (W0.drewN n19).heap.size := hz0
      clear hb0 hz0
      generalize W0.drewN n19 = W19 at hb19 hz19 ⊢
      refine wp_conv (.tmp 44) (by rfl) (.slice A n cap) (by rfl) d (conv_sl A n cap d W19 ((show TI s 196 A n (u8s (nats d)) _ from HI.out.1.below (by rw [HI.out.2]; exact hb19))).2 HA.out) ?_
      refine hK19 _ _ (show TI s 196 A n (u8s (nats d)) _ from HI.out.1.below (by rw [HI.out.2]; exact hb19)) ?_
      clear hK19 K19
      try simp only [Act.put, zA, zB, zC]
      refine Lex6.oneL 2 (by rfl) (by kernel_rfl) ?_
      refine Lex6.eff_ (by rfl) (by rfl) (fun n21 K21 hK21 => ?_)
      have hb21 := below_drewN hb19 n21
      have hz21 : base ≤ (W19.drewN n21).heap.size := hz19
      clear hb19 hz19
      generalize W19.drewN n21 = W21 at hb21 hz21 ⊢
      go_simp
      have ho22 := OwnB.lit2 W21 base 255 196 hz21 (by decide) (by omega)
      have hb22 : Below base w2 (W21.alloc (.cells #[.int .u8 255, .int .u8 (196 : Int)] 5)) := hb21.alloc hz21 _
      have hz22 : base ≤ (W21.alloc (.cells #[.int .u8 255, .int .u8 (196 : Int)] 5)).heap.size := by simp; omega
      refine hK21 _ _ (show TI s 196 A n (u8s (nats d)) _ from HI.out.1.below (by rw [HI.out.2]; exact hb22)) ?_
      clear hb21 hz21 hK21 K21
      generalize W21.alloc (.cells #[.int .u8 255, .int .u8 (196 : Int)] 5) = W22 at hb22 hz22 ho22 ⊢
      generalize Value.slice (some ⟨W21.heap.size, 0, none⟩) 2 2 = v22 at ho22 ⊢
      try simp only [Act.put, zA, zB, zC]
      refine Lex6.oneL 6 (by rfl) (by kernel_rfl) ?_
      refine Lex6.eff_ (by rfl) (by rfl) (fun n23 K23 hK23 => ?_)
      have hb23 := below_drewN hb22 n23
      have hz23 : base ≤ (W22.drewN n23).heap.size := hz22
      have ho23 := ho22.drewd n23
      clear hb22 hz22 ho22
      generalize W22.drewN n23 = W23 at hb23 hz23 ho23 ⊢
      refine Lex6.wp_call (f := 54) (args := #[v22, .int .i64 ((n + 2 : Nat) : Int)]) (by rw [hnn]; go_simp; try rfl) (two_nb base v22 [255, UInt8.ofNat 196] (n + 2) W23 ho23 hz23 (by omega) (by simp)) ?_
      rintro e24 W24 ⟨v24, rfl, ho24, hgr24, _⟩
      have hb24 : Below base w2 W24 := by have h1 := own_grown_to (a := w2) (base := base) (by rw [HI.out.2]; exact hb23) ho23 (by rw [HI.out.2]; exact Nat.le_refl _) hgr24; rw [HI.out.2] at h1; exact h1
      have hz24 : base ≤ W24.heap.size := by have := hb24.size; have := HI.out.2; omega
      refine ⟨_, rfl, hK23 _ _ (show TI s 196 A n (u8s (nats d)) _ from HI.out.1.below (by rw [HI.out.2]; exact hb24)) ?_⟩
      clear ho23 hb23 hz23 hgr24 hK23 K23
      try simp only [Act.put, zA, zB, zC]
      refine Lex6.oneL 7 (by rfl) (by kernel_rfl) ?_
      refine Lex6.eff_ (by rfl) (by rfl) (fun n25 K25 hK25 => ?_)
      have hb25 := below_drewN hb24 n25
      have hz25 : base ≤ (W24.drewN n25).heap.size := hz24
      have ho25 := ho24.drewd n25
      clear hb24 hz24 ho24
      generalize W24.drewN n25 = W25 at hb25 hz25 ho25 ⊢
      refine wp_conv (.tmp 42) (by rfl) v24 (by rfl) ([255, UInt8.ofNat 196] ++ num2 (n + 2)) (conv_own ho25) ?_
      refine hK25 _ _ (show TI s 196 A n (u8s (nats d)) _ from HI.out.1.below (by rw [HI.out.2]; exact hb25)) ?_
      clear hK25 K25
      try simp only [Act.put, zA, zB, zC]
      refine Lex6.oneL 10 (by rfl) (by kernel_rfl) (Lex6.free_ (v := .string (Bs (([255, UInt8.ofNat 196] ++ num2 (n + 2)) ++ d))) (by rfl) (by rfl) (val_add rfl rfl rfl (by simp only [List.length_append, List.length_cons, List.length_nil, show ∀ z, (num2 z).length = 2 from fun _ => rfl]; have := HL.out; omega)) ?_); simp only [Act.put, zA, zB, zC]
      refine Lex6.takeL 11 (by rfl) (by kernel_rfl) (Lex6.free_ (v := ?_) (by rfl) (by rfl) (fun u => ?_) ?_); rotate_left; (go_simp; try with_reducible rfl); simp only [Act.put, zA, zB, zC]
      refine Lex6.oneL 12 (by rfl) (by kernel_rfl) (Lex6.free_ (v := ?_) (by rfl) (by rfl) (fun u => ?_) ?_); rotate_left; (go_simp; try with_reducible rfl); simp only [Act.put, zA, zB, zC]
      refine Lex6.done (by kernel_rfl) (fun n9 => ?_)
      have hb9 := below_then hb3 (w2_below HI.out.2 (below_drewN hb25 n9))
      clear hb25 hz25
      generalize W25.drewN n9 = w9 at hb9 ⊢
      go_wp2_with fail
      go_ret2
      exact ⟨by rw [HR.out]; show _ = Ending.returned _; simp [num2], hb9⟩
  · have k1b : ((code : Int) == 219) = false := by simp; omega
    have k2b : ((code : Int) == 196) = false := by simp; omega
    have k1c : ¬ (code : Int) = 219 := by omega
    have k2c : ¬ (code : Int) = 196 := by omega
    have hbg2 : (n : Int) ≤ 65533 := by omega
    have hr := HRR.out
    rw [if_neg (by omega)] at hr
    have HR := Lib.hid hr; clear hr HRR
    go_upto_region 8 with fail
    have hwr : IntKind.i64.wrap ((n : Int) + 2) = n + 2 := by rw [IntKind.wrap_i64]; omega
    have hnn : ((n + 2 : Nat) : Int) = (n : Int) + 2 := by omega
    generalize hbs : w2.heap.size = base at hb3
    have hI : TI s code A n (u8s (nats d)) w2 := ⟨g0b, hsl⟩
    refine Lex6.wp_region_tree [] 13 rfl (TI s code A n (u8s (nats d))) (fun u n h => h) hI (by kernel_rfl) ?_
    have hJ0 : TI s code A n (u8s (nats d)) w2.drew := hI
    have hb0 : Below base w2 w2.drew := by rw [← hbs]; exact below_drewN (Below.refl _ _) 1
    have hz0 : base ≤ w2.drew.heap.size := by have := hb0.size; omega
    have HI := Lib.hid (And.intro hI hbs)
    clear hI hbs
    generalize w2.drew = W0 at hJ0 hb0 hz0 ⊢
    refine Lex6.takeL 0 (by rfl) (by kernel_rfl) (Lex6.free_ (v := ?_) (by rfl) (by rfl) (fun u => ?_) ?_); rotate_left; (go_simp; try with_reducible rfl); simp only [Act.put, zA, zB, zC]
    refine Lex6.takeL 1 (by rfl) (by kernel_rfl) (Lex6.load_ (v := ?_) (by rfl) (by rfl) (fun u hu => ?_) ?_); rotate_left; (obtain ⟨hu0, hu1⟩ := hu; go_simp; try with_reducible rfl); simp only [Act.put, zA, zB, zC]
    refine Lex6.takeL 3 (by rfl) (by kernel_rfl) (Lex6.free_ (v := ?_) (by rfl) (by rfl) (fun u => ?_) ?_); rotate_left; (go_simp; try with_reducible rfl); simp only [Act.put, zA, zB, zC]
    refine Lex6.takeL 4 (by rfl) (by kernel_rfl) (Lex6.free_ (v := ?_) (by rfl) (by rfl) (fun u => ?_) ?_); rotate_left; (go_simp; try with_reducible rfl); simp only [Act.put, zA, zB, zC]
    refine Lex6.takeL 5 (by rfl) (by kernel_rfl) (Lex6.free_ (v := ?_) (by rfl) (by rfl) (fun u => ?_) ?_); rotate_left; (go_simp; try with_reducible rfl); simp only [Act.put, zA, zB, zC]
    refine Lex6.takeL 8 (by rfl) (by kernel_rfl) (Lex6.free_ (v := ?_) (by rfl) (by rfl) (fun u => ?_) ?_); rotate_left; (go_simp; try with_reducible rfl); simp only [Act.put, zA, zB, zC]
    refine Lex6.bothL 2 9 (by rfl) (by rfl) (by kernel_rfl) ?_ ?_
    · refine Lex6.eff_ (by rfl) (by rfl) (fun n1 K1 hK1 => ?_)
      have hb1 := below_drewN hb0 n1
      have hz1 : base ≤ (W0.drewN n1).heap.size := hz0
      clear hb0 hz0
      generalize W0.drewN n1 = W1 at hb1 hz1 ⊢
      go_simp
      have ho2 := OwnB.lit2 W1 base 255 code hz1 (by decide) (by omega)
      have hb2 : Below base w2 (W1.alloc (.cells #[.int .u8 255, .int .u8 (code : Int)] 5)) := hb1.alloc hz1 _
      have hz2 : base ≤ (W1.alloc (.cells #[.int .u8 255, .int .u8 (code : Int)] 5)).heap.size := by simp; omega
      refine hK1 _ _ (show TI s code A n (u8s (nats d)) _ from HI.out.1.below (by rw [HI.out.2]; exact hb2)) ?_
      clear hb1 hz1 hK1 K1
      generalize W1.alloc (.cells #[.int .u8 255, .int .u8 (code : Int)] 5) = W2 at hb2 hz2 ho2 ⊢
      generalize Value.slice (some ⟨W1.heap.size, 0, none⟩) 2 2 = v2 at ho2 ⊢
      try simp only [Act.put, zA, zB, zC]
      refine Lex6.bothL 6 9 (by rfl) (by rfl) (by kernel_rfl) ?_ ?_
      · refine Lex6.eff_ (by rfl) (by rfl) (fun n3 K3 hK3 => ?_)
        have hb3 := below_drewN hb2 n3
        have hz3 : base ≤ (W2.drewN n3).heap.size := hz2
        have ho3 := ho2.drewd n3
        clear hb2 hz2 ho2
        generalize W2.drewN n3 = W3 at hb3 hz3 ho3 ⊢
        refine Lex6.wp_call (f := 54) (args := #[v2, .int .i64 ((n + 2 : Nat) : Int)]) (by rw [hnn]; go_simp; try rfl) (two_nb base v2 [255, UInt8.ofNat code] (n + 2) W3 ho3 hz3 (by omega) (by simp)) ?_
        rintro e4 W4 ⟨v4, rfl, ho4, hgr4, _⟩
        have hb4 : Below base w2 W4 := by have h1 := own_grown_to (a := w2) (base := base) (by rw [HI.out.2]; exact hb3) ho3 (by rw [HI.out.2]; exact Nat.le_refl _) hgr4; rw [HI.out.2] at h1; exact h1
        have hz4 : base ≤ W4.heap.size := by have := hb4.size; have := HI.out.2; omega
        refine ⟨_, rfl, hK3 _ _ (show TI s code A n (u8s (nats d)) _ from HI.out.1.below (by rw [HI.out.2]; exact hb4)) ?_⟩
        clear ho3 hb3 hz3 hgr4 hK3 K3
        try simp only [Act.put, zA, zB, zC]
        refine Lex6.bothL 7 9 (by rfl) (by rfl) (by kernel_rfl) ?_ ?_
        · refine Lex6.eff_ (by rfl) (by rfl) (fun n5 K5 hK5 => ?_)
          have hb5 := below_drewN hb4 n5
          have hz5 : base ≤ (W4.drewN n5).heap.size := hz4
          have ho5 := ho4.drewd n5
          clear hb4 hz4 ho4
          generalize W4.drewN n5 = W5 at hb5 hz5 ho5 ⊢
          refine wp_conv (.tmp 42) (by rfl) v4 (by rfl) ([255, UInt8.ofNat code] ++ num2 (n + 2)) (conv_own ho5) ?_
          refine hK5 _ _ (show TI s code A n (u8s (nats d)) _ from HI.out.1.below (by rw [HI.out.2]; exact hb5)) ?_
          clear hK5 K5
          try simp only [Act.put, zA, zB, zC]
          refine Lex6.oneL 9 (by rfl) (by kernel_rfl) ?_
          refine Lex6.eff_ (by rfl) (by rfl) (fun n7 K7 hK7 => ?_)
          have hb7 := below_drewN hb5 n7
          have hz7 : base ≤ (W5.drewN n7).heap.size := hz5
          have ho7 := ho5.drewd n7
          clear hb5 hz5 ho5
          generalize W5.drewN n7 = W7 at hb7 hz7 ho7 ⊢
          refine wp_conv (.tmp 44) (by rfl) (.slice A n cap) (by rfl) d (conv_sl A n cap d W7 ((show TI s code A n (u8s (nats d)) _ from HI.out.1.below (by rw [HI.out.2]; exact hb7))).2 HA.out) ?_
          refine hK7 _ _ (show TI s code A n (u8s (nats d)) _ from HI.out.1.below (by rw [HI.out.2]; exact hb7)) ?_
          clear hK7 K7
          try simp only [Act.put, zA, zB, zC]
          refine Lex6.oneL 10 (by rfl) (by kernel_rfl) (Lex6.free_ (v := .string (Bs (([255, UInt8.ofNat code] ++ num2 (n + 2)) ++ d))) (by rfl) (by rfl) (val_add rfl rfl rfl (by simp only [List.length_append, List.length_cons, List.length_nil, show ∀ z, (num2 z).length = 2 from fun _ => rfl]; have := HL.out; omega)) ?_); simp only [Act.put, zA, zB, zC]
          refine Lex6.takeL 11 (by rfl) (by kernel_rfl) (Lex6.free_ (v := ?_) (by rfl) (by rfl) (fun u => ?_) ?_); rotate_left; (go_simp; try with_reducible rfl); simp only [Act.put, zA, zB, zC]
          refine Lex6.oneL 12 (by rfl) (by kernel_rfl) (Lex6.free_ (v := ?_) (by rfl) (by rfl) (fun u => ?_) ?_); rotate_left; (go_simp; try with_reducible rfl); simp only [Act.put, zA, zB, zC]
          refine Lex6.done (by kernel_rfl) (fun n9 => ?_)
          have hb9 := below_then hb3 (w2_below HI.out.2 (below_drewN hb7 n9))
          clear hb7 hz7
          generalize W7.drewN n9 = w9 at hb9 ⊢
          go_wp2_with fail
          go_ret2
          exact ⟨by rw [HR.out]; show _ = Ending.returned _; simp [num2], hb9⟩
        · refine Lex6.eff_ (by rfl) (by rfl) (fun n9 K9 hK9 => ?_)
          have hb9 := below_drewN hb4 n9
          have hz9 : base ≤ (W4.drewN n9).heap.size := hz4
          have ho9 := ho4.drewd n9
          clear hb4 hz4 ho4
          generalize W4.drewN n9 = W9 at hb9 hz9 ho9 ⊢
          refine wp_conv (.tmp 44) (by rfl) (.slice A n cap) (by rfl) d (conv_sl A n cap d W9 ((show TI s code A n (u8s (nats d)) _ from HI.out.1.below (by rw [HI.out.2]; exact hb9))).2 HA.out) ?_
          refine hK9 _ _ (show TI s code A n (u8s (nats d)) _ from HI.out.1.below (by rw [HI.out.2]; exact hb9)) ?_
          clear hK9 K9
          try simp only [Act.put, zA, zB, zC]
          refine Lex6.oneL 7 (by rfl) (by kernel_rfl) ?_
          refine Lex6.eff_ (by rfl) (by rfl) (fun n11 K11 hK11 => ?_)
          have hb11 := below_drewN hb9 n11
          have hz11 : base ≤ (W9.drewN n11).heap.size := hz9
          have ho11 := ho9.drewd n11
          clear hb9 hz9 ho9
          generalize W9.drewN n11 = W11 at hb11 hz11 ho11 ⊢
          refine wp_conv (.tmp 42) (by rfl) v4 (by rfl) ([255, UInt8.ofNat code] ++ num2 (n + 2)) (conv_own ho11) ?_
          refine hK11 _ _ (show TI s code A n (u8s (nats d)) _ from HI.out.1.below (by rw [HI.out.2]; exact hb11)) ?_
          clear hK11 K11
          try simp only [Act.put, zA, zB, zC]
          refine Lex6.oneL 10 (by rfl) (by kernel_rfl) (Lex6.free_ (v := .string (Bs (([255, UInt8.ofNat code] ++ num2 (n + 2)) ++ d))) (by rfl) (by rfl) (val_add rfl rfl rfl (by simp only [List.length_append, List.length_cons, List.length_nil, show ∀ z, (num2 z).length = 2 from fun _ => rfl]; have := HL.out; omega)) ?_); simp only [Act.put, zA, zB, zC]
          refine Lex6.takeL 11 (by rfl) (by kernel_rfl) (Lex6.free_ (v := ?_) (by rfl) (by rfl) (fun u => ?_) ?_); rotate_left; (go_simp; try with_reducible rfl); simp only [Act.put, zA, zB, zC]
          refine Lex6.oneL 12 (by rfl) (by kernel_rfl) (Lex6.free_ (v := ?_) (by rfl) (by rfl) (fun u => ?_) ?_); rotate_left; (go_simp; try with_reducible rfl); simp only [Act.put, zA, zB, zC]
          refine Lex6.done (by kernel_rfl) (fun n9 => ?_)
          have hb9 := below_then hb3 (w2_below HI.out.2 (below_drewN hb11 n9))
          clear hb11 hz11
          generalize W11.drewN n9 = w9 at hb9 ⊢
          go_wp2_with fail
          go_ret2
          exact ⟨by rw [HR.out]; show _ = Ending.returned _; simp [num2], hb9⟩
      · refine Lex6.eff_ (by rfl) (by rfl) (fun n13 K13 hK13 => ?_)
        have hb13 := below_drewN hb2 n13
        have hz13 : base ≤ (W2.drewN n13).heap.size := hz2
        have ho13 := ho2.drewd n13
        clear hb2 hz2 ho2
        generalize W2.drewN n13 = W13 at hb13 hz13 ho13 ⊢
        refine wp_conv (.tmp 44) (by rfl) (.slice A n cap) (by rfl) d (conv_sl A n cap d W13 ((show TI s code A n (u8s (nats d)) _ from HI.out.1.below (by rw [HI.out.2]; exact hb13))).2 HA.out) ?_
        refine hK13 _ _ (show TI s code A n (u8s (nats d)) _ from HI.out.1.below (by rw [HI.out.2]; exact hb13)) ?_
        clear hK13 K13
        try simp only [Act.put, zA, zB, zC]
        refine Lex6.oneL 6 (by rfl) (by kernel_rfl) ?_
        refine Lex6.eff_ (by rfl) (by rfl) (fun n15 K15 hK15 => ?_)
        have hb15 := below_drewN hb13 n15
        have hz15 : base ≤ (W13.drewN n15).heap.size := hz13
        have ho15 := ho13.drewd n15
        clear hb13 hz13 ho13
        generalize W13.drewN n15 = W15 at hb15 hz15 ho15 ⊢
        refine Lex6.wp_call (f := 54) (args := #[v2, .int .i64 ((n + 2 : Nat) : Int)]) (by rw [hnn]; go_simp; try rfl) (two_nb base v2 [255, UInt8.ofNat code] (n + 2) W15 ho15 hz15 (by omega) (by simp)) ?_
        rintro e16 W16 ⟨v16, rfl, ho16, hgr16, _⟩
        have hb16 : Below base w2 W16 := by have h1 := own_grown_to (a := w2) (base := base) (by rw [HI.out.2]; exact hb15) ho15 (by rw [HI.out.2]; exact Nat.le_refl _) hgr16; rw [HI.out.2] at h1; exact h1
        have hz16 : base ≤ W16.heap.size := by have := hb16.size; have := HI.out.2; omega
        refine ⟨_, rfl, hK15 _ _ (show TI s code A n (u8s (nats d)) _ from HI.out.1.below (by rw [HI.out.2]; exact hb16)) ?_⟩
        clear ho15 hb15 hz15 hgr16 hK15 K15
        try simp only [Act.put, zA, zB, zC]
        refine Lex6.oneL 7 (by rfl) (by kernel_rfl) ?_
        refine Lex6.eff_ (by rfl) (by rfl) (fun n17 K17 hK17 => ?_)
        have hb17 := below_drewN hb16 n17
        have hz17 : base ≤ (W16.drewN n17).heap.size := hz16
        have ho17 := ho16.drewd n17
        clear hb16 hz16 ho16
        generalize W16.drewN n17 = W17 at hb17 hz17 ho17 ⊢
        refine wp_conv (.tmp 42) (by rfl) v16 (by rfl) ([255, UInt8.ofNat code] ++ num2 (n + 2)) (conv_own ho17) ?_
        refine hK17 _ _ (show TI s code A n (u8s (nats d)) _ from HI.out.1.below (by rw [HI.out.2]; exact hb17)) ?_
        clear hK17 K17
        try simp only [Act.put, zA, zB, zC]
        refine Lex6.oneL 10 (by rfl) (by kernel_rfl) (Lex6.free_ (v := .string (Bs (([255, UInt8.ofNat code] ++ num2 (n + 2)) ++ d))) (by rfl) (by rfl) (val_add rfl rfl rfl (by simp only [List.length_append, List.length_cons, List.length_nil, show ∀ z, (num2 z).length = 2 from fun _ => rfl]; have := HL.out; omega)) ?_); simp only [Act.put, zA, zB, zC]
        refine Lex6.takeL 11 (by rfl) (by kernel_rfl) (Lex6.free_ (v := ?_) (by rfl) (by rfl) (fun u => ?_) ?_); rotate_left; (go_simp; try with_reducible rfl); simp only [Act.put, zA, zB, zC]
        refine Lex6.oneL 12 (by rfl) (by kernel_rfl) (Lex6.free_ (v := ?_) (by rfl) (by rfl) (fun u => ?_) ?_); rotate_left; (go_simp; try with_reducible rfl); simp only [Act.put, zA, zB, zC]
        refine Lex6.done (by kernel_rfl) (fun n9 => ?_)
        have hb9 := below_then hb3 (w2_below HI.out.2 (below_drewN hb17 n9))
        clear hb17 hz17
        generalize W17.drewN n9 = w9 at hb9 ⊢
        go_wp2_with fail
        go_ret2
        exact ⟨by rw [HR.out]; show _ = Ending.returned _; simp [num2], hb9⟩
    · refine Lex6.eff_ (by rfl) (by rfl) (fun n19 K19 hK19 => ?_)
      have hb19 := below_drewN hb0 n19
      have hz19 : base ≤ (W0.drewN n19).heap.size := hz0
      clear hb0 hz0
      generalize W0.drewN n19 = W19 at hb19 hz19 ⊢
      refine wp_conv (.tmp 44) (by rfl) (.slice A n cap) (by rfl) d (conv_sl A n cap d W19 ((show TI s code A n (u8s (nats d)) _ from HI.out.1.below (by rw [HI.out.2]; exact hb19))).2 HA.out) ?_
      refine hK19 _ _ (show TI s code A n (u8s (nats d)) _ from HI.out.1.below (by rw [HI.out.2]; exact hb19)) ?_
      clear hK19 K19
      try simp only [Act.put, zA, zB, zC]
      refine Lex6.oneL 2 (by rfl) (by kernel_rfl) ?_
      refine Lex6.eff_ (by rfl) (by rfl) (fun n21 K21 hK21 => ?_)
      have hb21 := below_drewN hb19 n21
      have hz21 : base ≤ (W19.drewN n21).heap.size := hz19
      clear hb19 hz19
      generalize W19.drewN n21 = W21 at hb21 hz21 ⊢
      go_simp
      have ho22 := OwnB.lit2 W21 base 255 code hz21 (by decide) (by omega)
      have hb22 : Below base w2 (W21.alloc (.cells #[.int .u8 255, .int .u8 (code : Int)] 5)) := hb21.alloc hz21 _
      have hz22 : base ≤ (W21.alloc (.cells #[.int .u8 255, .int .u8 (code : Int)] 5)).heap.size := by simp; omega
      refine hK21 _ _ (show TI s code A n (u8s (nats d)) _ from HI.out.1.below (by rw [HI.out.2]; exact hb22)) ?_
      clear hb21 hz21 hK21 K21
      generalize W21.alloc (.cells #[.int .u8 255, .int .u8 (code : Int)] 5) = W22 at hb22 hz22 ho22 ⊢
      generalize Value.slice (some ⟨W21.heap.size, 0, none⟩) 2 2 = v22 at ho22 ⊢
      try simp only [Act.put, zA, zB, zC]
      refine Lex6.oneL 6 (by rfl) (by kernel_rfl) ?_
      refine Lex6.eff_ (by rfl) (by rfl) (fun n23 K23 hK23 => ?_)
      have hb23 := below_drewN hb22 n23
      have hz23 : base ≤ (W22.drewN n23).heap.size := hz22
      have ho23 := ho22.drewd n23
      clear hb22 hz22 ho22
      generalize W22.drewN n23 = W23 at hb23 hz23 ho23 ⊢
      refine Lex6.wp_call (f := 54) (args := #[v22, .int .i64 ((n + 2 : Nat) : Int)]) (by rw [hnn]; go_simp; try rfl) (two_nb base v22 [255, UInt8.ofNat code] (n + 2) W23 ho23 hz23 (by omega) (by simp)) ?_
      rintro e24 W24 ⟨v24, rfl, ho24, hgr24, _⟩
      have hb24 : Below base w2 W24 := by have h1 := own_grown_to (a := w2) (base := base) (by rw [HI.out.2]; exact hb23) ho23 (by rw [HI.out.2]; exact Nat.le_refl _) hgr24; rw [HI.out.2] at h1; exact h1
      have hz24 : base ≤ W24.heap.size := by have := hb24.size; have := HI.out.2; omega
      refine ⟨_, rfl, hK23 _ _ (show TI s code A n (u8s (nats d)) _ from HI.out.1.below (by rw [HI.out.2]; exact hb24)) ?_⟩
      clear ho23 hb23 hz23 hgr24 hK23 K23
      try simp only [Act.put, zA, zB, zC]
      refine Lex6.oneL 7 (by rfl) (by kernel_rfl) ?_
      refine Lex6.eff_ (by rfl) (by rfl) (fun n25 K25 hK25 => ?_)
      have hb25 := below_drewN hb24 n25
      have hz25 : base ≤ (W24.drewN n25).heap.size := hz24
      have ho25 := ho24.drewd n25
      clear hb24 hz24 ho24
      generalize W24.drewN n25 = W25 at hb25 hz25 ho25 ⊢
      refine wp_conv (.tmp 42) (by rfl) v24 (by rfl) ([255, UInt8.ofNat code] ++ num2 (n + 2)) (conv_own ho25) ?_
      refine hK25 _ _ (show TI s code A n (u8s (nats d)) _ from HI.out.1.below (by rw [HI.out.2]; exact hb25)) ?_
      clear hK25 K25
      try simp only [Act.put, zA, zB, zC]
      refine Lex6.oneL 10 (by rfl) (by kernel_rfl) (Lex6.free_ (v := .string (Bs (([255, UInt8.ofNat code] ++ num2 (n + 2)) ++ d))) (by rfl) (by rfl) (val_add rfl rfl rfl (by simp only [List.length_append, List.length_cons, List.length_nil, show ∀ z, (num2 z).length = 2 from fun _ => rfl]; have := HL.out; omega)) ?_); simp only [Act.put, zA, zB, zC]
      refine Lex6.takeL 11 (by rfl) (by kernel_rfl) (Lex6.free_ (v := ?_) (by rfl) (by rfl) (fun u => ?_) ?_); rotate_left; (go_simp; try with_reducible rfl); simp only [Act.put, zA, zB, zC]
      refine Lex6.oneL 12 (by rfl) (by kernel_rfl) (Lex6.free_ (v := ?_) (by rfl) (by rfl) (fun u => ?_) ?_); rotate_left; (go_simp; try with_reducible rfl); simp only [Act.put, zA, zB, zC]
      refine Lex6.done (by kernel_rfl) (fun n9 => ?_)
      have hb9 := below_then hb3 (w2_below HI.out.2 (below_drewN hb25 n9))
      clear hb25 hz25
      generalize W25.drewN n9 = w9 at hb9 ⊢
      go_wp2_with fail
      go_ret2
      exact ⟨by rw [HR.out]; show _ = Ending.returned _; simp [num2], hb9⟩
end Go.Proofs.YtjfgfoeenajneaaGreatDoor.Sg
