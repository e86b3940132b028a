/- SegmentBack: what is written of a segment is read as the same one; cut off anywhere it ends with the file. -/
import Derived.Test.YtjfgfoeenajneaaDoorGD3
import Derived.Test.YtjfgfoeenajneaaDoorGD2
namespace Go.Proofs.YtjfgfoeenajneaaDoor.Sg
open Go.RowKit

theorem text_nz {m : SegM} {c : Nat} (h : textM m = .bad c) : c ≠ 0 := by
  unfold textM at h
  split at h
  · injection h with h; omega
  · split at h
    · rename_i e hd
      injection h with h
      subst h
      unfold dataM at hd
      split at hd
      · exact quantT_bad hd
      · split at hd
        · exact huffT_bad hd
        · split at hd
          · exact frameT_bad hd
          · split at hd
            · exact scanT_bad hd
            · split at hd
              · split at hd
                · injection hd with hd; omega
                · cases hd
              · cases hd
    · split at h
      · injection h with h; omega
      · cases h
theorem text_len {m : SegM} {t : List UInt8} (h : textM m = .ok t) : 4 ≤ t.length ∧ t.length ≤ 65537 := by
  obtain ⟨_, _, d, _, h4, rfl⟩ := text_parts h
  simp [num2]
  omega
/-- what is read back is written as it was -/
theorem text_plain {m : SegM} (hw : m.wf) {t : List UInt8} (h : textM m = .ok t) (a b : Int) : textM (plainM m a b) = .ok t := by
  obtain ⟨h1, h2, d, h3, h4, ht⟩ := text_parts h
  obtain ⟨k1, k2⟩ := cont_again (cont_back hw h3 h4)
  have hd : dataM (plainM m a b) = .ok d := by
    rw [← plainM_at, ← k2]
    rfl
  have hc : (plainM m a b).code = m.code := by rw [← plainM_at]; exact k1
  rw [text_of (m := plainM m a b) (by rw [hc]; exact h1) (by rw [hc]; exact h2) hd h4, hc, ht]
theorem plain_ok {m : SegM} (hw : SegOk m) (a b : Int) : SegOk (plainM m a b) ∧ ∀ p ∈ (plainM m a b).parts, p.comp = 0 := by
  have h0 := ok_none m.code hw.code a b
  unfold plainM
  by_cases c1 : m.code = 219
  · rw [if_pos c1]
    exact ⟨{ h0 with quants := hw.quants, fewQ := hw.fewQ }, fun q h => (by cases h)⟩
  rw [if_neg c1]
  by_cases c2 : m.code = 196
  · rw [if_pos c2]
    exact ⟨{ h0 with huffs := hw.huffs, fewH := hw.fewH }, fun q h => (by cases h)⟩
  rw [if_neg c2]
  by_cases c3 : m.code = 192 ∨ m.code = 193
  · rw [if_pos c3]
    exact ⟨{ h0 with kind := hw.code, comps := hw.comps, fewC := hw.fewC }, fun q h => (by cases h)⟩
  rw [if_neg c3]
  by_cases c4 : m.code = 218
  · rw [if_pos c4]
    refine ⟨{ h0 with parts := fun p hp => ?_, ids := hw.ids, fewP := by show (List.map _ _).length ≤ _; rw [List.length_map]; exact hw.fewP, fewI := hw.fewI }, fun p hp => ?_⟩
    · obtain ⟨x, hx, rfl⟩ := List.mem_map.1 hp
      exact hw.parts x hx
    · obtain ⟨x, hx, rfl⟩ := List.mem_map.1 hp
      rfl
  rw [if_neg c4]
  by_cases c5 : m.code = 221
  · rw [if_pos c5]
    exact ⟨{ h0 with rs := hw.rs }, fun q h => (by cases h)⟩
  · rw [if_neg c5]
    exact ⟨{ h0 with fewD := hw.fewD }, fun q h => (by cases h)⟩
theorem val_load_row {P : Program} {op : Oper} {a : Act} {u : World} (ty : TypeId) (x : Operand) (ho : op.op = .load ty x) (g : Nat) (hx : a.eval x = .pointer (some ⟨g, 0, none⟩)) (t : TypeId) (cs : Array Value) (d : TypeDesc) (hg : Blk u g t cs)
    (hu : P.underlying ty = some d) (hd : (match d with | .struct _ | .array _ _ => true | _ => false) = true) (hi : (P.info? ty).map (·.size) = some cs.size) : (execOp a.eval op).run P u = .ok (.value (.agg cs)) u := by
  unfold execOp
  simp only [ho, hx, Instr.loadAt, Instr.sureAddr, Sem.run_bind, Sem.run_pure, Result.andThen_ok, run_loadVar_row u g t ty cs (0, 0) d hg hu hd hi]
theorem tmod_bd (c : Int) (n : Nat) (h : 0 < n) : -(n : Int) < c.tmod n ∧ c.tmod n < n :=
  ⟨Int.lt_tmod_of_pos c (by omega), Int.tmod_lt_of_pos c (by omega)⟩
theorem wf_zero {c : Int} (h : c = 0) : (Lit.int .i64 c).wf = true := by subst h; rfl
set_option maxRecDepth 100000 in
set_option maxHeartbeats 16000000 in
theorem segBack_law (m : SegM) (vq vh vc vp vi : Value) (x y : List UInt8) (cut : Int) (w : World) (hev : ErrT w) (hm : SegAt w m vq vh vc vp vi) (hok : SegOk m) (hfew : ∀ h ∈ m.huffs, h.vals.length ≤ 10000000000) (hx : x.length ≤ 1048576) (hy : y.length ≤ 1048576) (hc1 : -9223372036854775808 ≤ cut) (hc2 : cut ≤ 9223372036854775807) :
    Calls Tryd.prog 4 #[.agg (segC m vq vh vc vp vi), .string (Bs x), .string (Bs y), .int .i64 cut] w fun e w' => e = .returned (.bool true) ∧ Below w.heap.size w w' := by
  have HOK := Lib.hid (And.intro hok (And.intro hfew (ok_wf hok))); clear hok hfew
  obtain ⟨sv, hsv⟩ : ∃ z, z = segC m vq vh vc vp vi := ⟨_, rfl⟩
  rw [← hsv]
  have HSV := Lib.hid hsv; clear hsv
  have hsz : (Tryd.prog.info? 30).map (·.size) = some sv.size := by rw [HSV.out]; exact size13R
  have HSZ := Lib.hid hsz; clear hsz
  have HM := Lib.hid hm; clear hm
  have HCU := Lib.hid (And.intro hc1 hc2); clear hc1 hc2
  go_enter Tryd.func4, Tryd.ntmps4
  go_upto_region 1 with fail
  have hS1 := Blk.new w 30 sv
  have hb1 : Below w.heap.size w (w.alloc (.cells sv 30)) := (Below.refl _ _).alloc (Nat.le_refl _) _
  have hev1 := hev.below hb1
  generalize w.alloc (.cells sv 30) = w1 at hS1 hb1 hev1 ⊢
  obtain ⟨s, hs⟩ : ∃ s, w.heap.size = s := ⟨_, rfl⟩
  rw [hs] at hS1
  simp only [hs]
  have HS := Lib.hid hs; clear hs hev
  have HAW := Lib.hid (awake_any w1 hev1)
  go_wp2_with fail
  refine HAW.out.mono ?_
  rintro e w2 ⟨rfl, hb⟩
  have hS2 := hS1.kept hb
  have hb2 := below_then hb1 hb
  have hev2 := hev1.below hb
  clear hS1 hb1 hb HAW hev1
  have ht := twin_any m vq vh vc vp vi w2 (HM.out.below hb2) HOK.out.1 HOK.out.2.1
  rw [← HSV.out] at ht
  have HT := Lib.hid ht; clear ht
  go_wp2_with (refine wpList_load_row rfl _ _ rfl s rfl _ _ _ _ hS2 Tryd.underlying30 rfl HSZ.out ?_)
  refine HT.out.mono ?_
  rintro e w3 ⟨a, b, c, p, q, rfl, hl, hb⟩
  have hS3 := hS2.kept hb
  have hb3 := below_then hb2 hb
  have hev3 := hev2.below hb
  clear hS2 hb2 hb HT hev2
  have ht := text_any m a b c p q w3 hl.at_ HOK.out.1
  have HT := Lib.hid ht; clear ht hl
  go_wp2_with fail
  refine HT.out.mono ?_
  intro e w4 he
  obtain ⟨rfl, hb⟩ := he.out
  have hS4 := hS3.kept hb
  have hb4 := below_then hb3 hb
  have hev4 := hev3.below hb
  clear hS3 hb3 hb HT hev3 he
  cases htx : textM m with
  | bad cc =>
    have hc0 := text_nz htx
    have h1 : ((rC (Res.bad cc) : Nat) : Int) = (cc : Int) := rfl
    have h2 : rT (Res.bad cc) = [] := rfl
    rw [h1, h2]
    have h3 : ((cc : Int) != 0) = true := by simpa using hc0
    have h4 : ¬ ((cc : Int) = 0) := by omega
    have h5 : ((Bs []).toList.isEmpty) = true := by rw [ByteArray.toList_eq]; rfl
    clear hc0 htx h1 h2
    go_wp2_with fail
    go_ret
    exact ⟨rfl, hb4⟩
  | ok t =>
    obtain ⟨hl1, hl2⟩ := text_len htx
    have h1 : ((rC (Res.ok t) : Nat) : Int) = 0 := rfl
    have h2 : rT (Res.ok t) = t := rfl
    rw [h1, h2]
    clear h1 h2
    have hrd := read_back HOK.out.2.2 htx x y
    have hcb := fun n hn => cut_back HOK.out.1.code htx x n hn
    have HTX := Lib.hid (And.intro htx (And.intro hrd hcb)); clear htx hrd hcb
    have hsx : (Bs x).size = x.length := Bs_size x
    have hst : (Bs t).size = t.length := Bs_size t
    have HFL := Lib.hid (show (x ++ t ++ y).length ≤ 16777216 by rw [List.length_append, List.length_append]; omega)
    obtain ⟨nx, hnx⟩ : ∃ n, x.length = n := ⟨_, rfl⟩
    obtain ⟨nt, hnt⟩ : ∃ n, t.length = n := ⟨_, rfl⟩
    rw [hnx] at hsx hx
    rw [hnt] at hst hl1 hl2
    have hsxt : (Bs x ++ Bs t).size = nx + nt := by rw [Bs_append, Bs_size, List.length_append, hnx, hnt]
    have hsy : (Bs y).size = y.length := Bs_size y
    have HNN := Lib.hid (And.intro hnx hnt); clear hnx hnt
    have hr := read_any (x ++ t ++ y) (nx : Int) w4 hev4 HFL.out (by omega) (by omega)
    have hnt4 : ¬ (nt : Int) < 4 := by omega
    rw [← HNN.out.1, HTX.out.2.1, HNN.out.1, HNN.out.2] at hr
    have HR := Lib.hid hr; clear hr
    go_wp2_with fail
    rw [Bs_append, Bs_append]
    refine HR.out.mono ?_
    rintro e w5 ⟨hb, vq2, vh2, vc2, vp2, vi2, rfl, hls⟩
    have hS5 := hS4.kept hb
    have hb5 := below_then hb4 hb
    have hev5 := hev4.below hb
    clear hS4 hb4 hb HR hev4
    have hone : (segC (plainM m nx (nx + nt)) vq2 vh2 vc2 vp2 vi2).all (·.oneCell') = true := one13 _ _ _ _ _ _ (own_one hls.q) (by obtain ⟨_, _, h9, _⟩ := hls.h; exact own_one h9) (own_one hls.c) (own_one hls.p) (own_one hls.i)
    have hat5 := hls.loose.at_
    obtain ⟨rv, hrv⟩ : ∃ z, z = segC (plainM m nx (nx + nt)) vq2 vh2 vc2 vp2 vi2 := ⟨_, rfl⟩
    rw [← hrv] at hone ⊢
    have hrz : (Tryd.prog.info? 30).map (·.size) = some rv.size := by rw [hrv]; exact size13R
    have hrz2 : (#[.int .u8 0, .int .i64 0, .int .i64 0, .slice none 0 0, .slice none 0 0, .int .u8 0, .int .i64 0, .int .i64 0, .slice none 0 0, .slice none 0 0, .slice none 0 0, .int .i64 0, .string (ByteArray.mk #[])] : Array Value).size = rv.size := by rw [hrv]; rfl
    have HRV := Lib.hid (And.intro hrv (And.intro hrz (And.intro hrz2 hone))); clear hrv hrz hrz2 hone hls
    have hpok := plain_ok HOK.out.1 (nx : Int) (nx + nt : Int)
    have HPOK := Lib.hid (And.intro hpok.1 (And.intro hpok.2 (text_plain HOK.out.2.2 HTX.out.1 (nx : Int) (nx + nt : Int)))); clear hpok
    go_upto_region 9 with (refine wpList_store_row rfl _ _ _ rfl _ _ rfl rfl _ _ (Blk.new w5 _ _) HRV.out.2.1 HRV.out.2.2.1 HRV.out.2.2.2 ?_)
    have hD6 : Blk ((w5.alloc (.cells #[.int .u8 0, .int .i64 0, .int .i64 0, .slice none 0 0, .slice none 0 0, .int .u8 0, .int .i64 0, .int .i64 0, .slice none 0 0, .slice none 0 0, .slice none 0 0, .int .i64 0, .string (ByteArray.mk #[])] 30)).setRow w5.heap.size rv) w5.heap.size 30 rv := (Blk.new w5 _ _).row
    have hb : Below w5.heap.size w5 ((w5.alloc (.cells #[.int .u8 0, .int .i64 0, .int .i64 0, .slice none 0 0, .slice none 0 0, .int .u8 0, .int .i64 0, .int .i64 0, .slice none 0 0, .slice none 0 0, .slice none 0 0, .int .i64 0, .string (ByteArray.mk #[])] 30)).setRow w5.heap.size rv) := grown_below (grown_row (grown_alloc (grown_of_below (Below.refl _ _) none) _) (.inl (Nat.le_refl _)) _)
    generalize ((w5.alloc (.cells #[.int .u8 0, .int .i64 0, .int .i64 0, .slice none 0 0, .slice none 0 0, .int .u8 0, .int .i64 0, .int .i64 0, .slice none 0 0, .slice none 0 0, .slice none 0 0, .int .i64 0, .string (ByteArray.mk #[])] 30)).setRow w5.heap.size rv) = w6 at hD6 hb ⊢
    have hS6 := hS5.kept hb
    have hb6 := below_then hb5 hb
    have hev6 := hev5.below hb
    have hat6 := hat5.below hb
    obtain ⟨d, hd⟩ : ∃ d, w5.heap.size = d := ⟨_, rfl⟩
    rw [hd] at hD6
    simp only [hd]
    have HD := Lib.hid hd; clear hd hS5 hb5 hb hev5 hat5
    have hws : IntKind.i64.wrap ((nx : Int) + (nt : Int)) = (nx : Int) + (nt : Int) := IntWalk.i64_in _ (by omega)
    have hI : Blk w6 d 30 rv ∧ Blk w6 s 30 sv := ⟨hD6, hS6⟩
    have HAT := Lib.hid hat6; clear hat6
    have HEV := Lib.hid hev6; clear hev6
    refine Lex3.wp_region_lex [] (fun u : World => Blk u d 30 rv ∧ Blk u s 30 sv) (fun u n h => h) hI (by kernel_rfl) (by kernel_rfl) ?_
    try simp only [Act.put, List.setIfInBounds_toArray, List.set_cons_zero, List.set_cons_succ]
    refine Lex3.run_load (v := .agg rv) (by rfl) (by rfl) (fun u hu => val_load_row 30 (.tmp 13) rfl d rfl 30 rv _ (hu.1) Tryd.underlying30 rfl (HRV.out.2.1)) ?_; simp only [Act.put, List.setIfInBounds_toArray, List.set_cons_zero, List.set_cons_succ]
    refine Lex3.run_load (v := .agg sv) (by rfl) (by rfl) (fun u hu => val_load_row 30 (.tmp 4) rfl s rfl 30 sv _ (hu.2) Tryd.underlying30 rfl (HSZ.out)) ?_; simp only [Act.put, List.setIfInBounds_toArray, List.set_cons_zero, List.set_cons_succ]
    refine Lex3.run_free (v := ?_) (by rfl) (by rfl) (fun u => ?_) ?_; rotate_left; (go_simp; try with_reducible rfl); simp only [Act.put, List.setIfInBounds_toArray, List.set_cons_zero, List.set_cons_succ]
    refine Lex3.run_free (v := ?_) (by rfl) (by rfl) (fun u => ?_) ?_; rotate_left; (go_simp; try with_reducible rfl); simp only [Act.put, List.setIfInBounds_toArray, List.set_cons_zero, List.set_cons_succ]
    refine Lex3.run_free (v := ?_) (by rfl) (by rfl) (fun u => ?_) ?_; rotate_left; (go_simp; try with_reducible rfl); simp only [Act.put, List.setIfInBounds_toArray, List.set_cons_zero, List.set_cons_succ]
    refine Lex3.run_free (v := ?_) (by rfl) (by rfl) (fun u => ?_) ?_; rotate_left; (go_simp; try with_reducible rfl); simp only [Act.put, List.setIfInBounds_toArray, List.set_cons_zero, List.set_cons_succ]
    refine Lex3.run_free (v := ?_) (by rfl) (by rfl) (fun u => ?_) ?_; rotate_left; (go_simp; try with_reducible rfl); simp only [Act.put, List.setIfInBounds_toArray, List.set_cons_zero, List.set_cons_succ]

    refine Lex3.run_eff (by rfl) (by rfl) (fun n1 K1 hK1 => ?_)
    go_simp
    have hp := plainly_any m vq vh vc vp vi (nx : Int) (nx + nt : Int) (w6.drewN (1 + n1)) (HM.out.below (below_drewN hb6 (1 + n1))) HOK.out.1
    rw [← HSV.out] at hp
    refine hp.mono ?_
    rintro e w7 ⟨vq3, vh3, vc3, vp3, vi3, rfl, hat7, hb⟩
    have hb7 := below_then (below_drewN hb6 (1 + n1)) hb
    have hbx := below_then (below_drewN (Below.refl w6.heap.size w6) (1 + n1)) hb
    refine hK1 _ _ ⟨hD6.kept hbx, hS6.kept hbx⟩ ?_
    clear hK1 K1 hp hI hb
    try simp only [Act.put, List.setIfInBounds_toArray, List.set_cons_zero, List.set_cons_succ]


    refine Lex3.run_eff (by rfl) (by rfl) (fun n2 K2 hK2 => ?_)
    have hsm := same_true (plainM m nx (nx + nt)) vq2 vh2 vc2 vp2 vi2 vq3 vh3 vc3 vp3 vi3 (w7.drewN n2) (HAT.out.below (below_drewN hbx n2)) (hat7.below (below_drewN (Below.refl _ _) n2)) HPOK.out.1 (fun p hp => wf_zero (HPOK.out.2.1 p hp))
    rw [← HRV.out.1] at hsm
    go_simp
    refine hsm.mono ?_
    rintro e w8 ⟨rfl, hb⟩
    have hb8 := below_then (below_drewN hb7 n2) hb
    have hby := below_then (below_drewN hbx n2) hb
    refine hK2 _ _ ⟨hD6.kept hby, hS6.kept hby⟩ ?_
    clear hK2 K2 hsm hb hat7 hb7 hbx
    try simp only [Act.put, List.setIfInBounds_toArray, List.set_cons_zero, List.set_cons_succ]
    refine Lex3.run_free (v := ?_) (by rfl) (by rfl) (fun u => ?_) ?_; rotate_left; (go_simp; try with_reducible rfl); simp only [Act.put, List.setIfInBounds_toArray, List.set_cons_zero, List.set_cons_succ]

    refine Lex3.run_nil (fun n3 => ?_)
    have hb9 := below_drewN hb8 n3
    have hbz := below_drewN hby n3
    clear hb8 hby
    generalize w8.drewN n3 = w9 at hb9 hbz ⊢
    have hD9 := hD6.kept hbz
    have hev9 := HEV.out.below hbz
    have ht := text_any (plainM m nx (nx + nt)) vq2 vh2 vc2 vp2 vi2 w9 (HAT.out.below hbz) HPOK.out.1
    rw [HPOK.out.2.2, ← HRV.out.1] at ht
    have HT := Lib.hid ht; clear ht hD6 hS6 HEV HAT hb6 hbz
    go_wp2_with (refine wpList_load_row rfl _ _ rfl d rfl _ _ _ _ hD9 Tryd.underlying30 rfl HRV.out.2.1 ?_)
    refine HT.out.mono ?_
    intro e w10 he
    obtain ⟨rfl, hb⟩ := he.out
    have hb10 := below_then hb9 hb
    have hev10 := hev9.below hb
    have h1 : ((rC (Res.ok t) : Nat) : Int) = 0 := rfl
    have h2 : rT (Res.ok t) = t := rfl
    rw [h1, h2]
    clear h1 h2 hD9 hev9 HT hb9 hb he
    obtain ⟨R, hR⟩ : ∃ R, cut.tmod (nt : Int) = R := ⟨_, rfl⟩
    obtain ⟨hr1, hr2⟩ := tmod_bd cut nt (by omega)
    rw [hR] at hr1 hr2
    have hnt0 : ¬ (nt : Int) = 0 := by omega
    have hwr : IntKind.i64.wrap R = R := IntWalk.i64_in _ (by omega)
    obtain ⟨T, hT⟩ : ∃ T, Bs t = T := ⟨_, rfl⟩
    have HBT := Lib.hid hT
    rw [hT] at hst hsxt
    rw [hT]
    clear hT
    by_cases hneg : R < 0
    · obtain ⟨k, hk⟩ : ∃ k : Nat, R + (nt : Int) = k := ⟨(R + nt).toNat, by omega⟩
      have hkn : k < nt := by omega
      have hwk : IntKind.i64.wrap (R + (nt : Int)) = (k : Int) := by rw [hk]; exact IntWalk.i64_in _ (by omega)
      have HR1 := Lib.hid (And.intro hr1 (And.intro hr2 hk)); clear hr1 hr2 hk
      go_upto_region 14 with fail
      clear hneg hwk hwr hR HR1
      have hcut : T.extract 0 k = Bs (t.take k) := by rw [← HBT.out, Bs_cut]; rfl
      have hck : (Bs (t.take k)).size = k := by rw [Bs_size, List.length_take, HNN.out.2]; omega
      have hkl : (k : Int) ≤ (nt : Int) := by omega
      have hk0 : 0 ≤ (k : Int) := by omega
      have hrd := read_any (x ++ t.take k) (nx : Int) w10 hev10 (by have := HFL.out; simp only [List.length_append, List.length_take] at *; omega) (by omega) (by omega)
      have hcb := HTX.out.2.2 k (by rw [HNN.out.2]; exact hkn)
      rw [HNN.out.1] at hcb
      rw [hcb] at hrd
      have HRD := Lib.hid hrd; clear hrd hcb
      go_wp2_with fail
      rw [Bs_append]
      refine HRD.out.mono ?_
      rintro e w11 ⟨hb, gf, rfl, _, hF⟩
      have hb11 := below_then hb10 hb
      have hev11 := hev10.below hb
      clear hb10 hev10 hb HRD hcut hck
      have HN0 := Lib.hid (show (segC SegM.none_ nilS nilS nilS nilS nilS).all (·.oneCell') = true from one13 _ _ _ _ _ _ rfl rfl rfl rfl rfl)
      go_upto_region 15 with (refine wpList_store_row rfl _ _ _ rfl _ _ rfl rfl _ _ (Blk.new w11 _ _) size13R rfl HN0.out ?_)
      have hb : Below w11.heap.size w11 ((w11.alloc (.cells #[.int .u8 0, .int .i64 0, .int .i64 0, .slice none 0 0, .slice none 0 0, .int .u8 0, .int .i64 0, .int .i64 0, .slice none 0 0, .slice none 0 0, .slice none 0 0, .int .i64 0, .string (ByteArray.mk #[])] 30)).setRow w11.heap.size (segC SegM.none_ nilS nilS nilS nilS nilS)) := grown_below (grown_row (grown_alloc (grown_of_below (Below.refl _ _) none) _) (.inl (Nat.le_refl _)) _)
      generalize ((w11.alloc (.cells #[.int .u8 0, .int .i64 0, .int .i64 0, .slice none 0 0, .slice none 0 0, .int .u8 0, .int .i64 0, .int .i64 0, .slice none 0 0, .slice none 0 0, .slice none 0 0, .int .i64 0, .string (ByteArray.mk #[])] 30)).setRow w11.heap.size (segC SegM.none_ nilS nilS nilS nilS nilS)) = w12 at hb ⊢
      have hF12 := hF.kept hb
      have hb12 := below_then hb11 hb
      have hev12 := hev11.below hb
      clear hF hb11 hev11 hb
      generalize w11.heap.size = g11
      have HTO := Lib.hid (told_fault 44 ((nx + k : Nat) : Int) gf w12 hev12 hF12 (by decide))
      clear hF12 hev12
      go_wp2_with fail
      refine HTO.out.mono ?_
      rintro e w13 ⟨rfl, hb⟩
      have hb13 := below_then hb12 hb
      clear hb12 hb HTO
      obtain ⟨P, hP⟩ : ∃ P, ((nx + k : Nat) : Int) = P := ⟨_, rfl⟩
      rw [hP]
      go_upto_region 16 with fail
      have hG := Blk.new w13 44 #[.int .i64 44, .int .i64 P]
      have hb14 : Below w.heap.size w (w13.alloc (.cells #[.int .i64 44, .int .i64 P] 44)) := hb13.alloc hb13.size _
      generalize (w13.alloc (.cells #[.int .i64 44, .int .i64 P] 44)) = w14 at hG hb14 ⊢
      generalize w13.heap.size = g13 at hG ⊢
      have k0 : w14.cell? ⟨g13, 0, none⟩ = some (.int .i64 44) := by rw [hG.cell]; rfl
      have k1 : w14.cell? ⟨g13, 1, none⟩ = some (.int .i64 P) := by rw [hG.cell]; rfl
      have hwp : IntKind.i64.wrap ((nx : Int) + (k : Int)) = P := by rw [← hP]; exact IntWalk.i64_in _ (by omega)
      clear hP hG hb13
      go_wp2_with fail
      go_ret
      exact ⟨rfl, hb14⟩
    · obtain ⟨k, hk⟩ : ∃ k : Nat, R = k := ⟨R.toNat, by omega⟩
      have hkn : k < nt := by omega
      subst hk
      clear hr1 hr2 hneg
      go_upto_region 14 with fail
      clear hwr hR
      have hcut : T.extract 0 k = Bs (t.take k) := by rw [← HBT.out, Bs_cut]; rfl
      have hck : (Bs (t.take k)).size = k := by rw [Bs_size, List.length_take, HNN.out.2]; omega
      have hkl : (k : Int) ≤ (nt : Int) := by omega
      have hk0 : 0 ≤ (k : Int) := by omega
      have hrd := read_any (x ++ t.take k) (nx : Int) w10 hev10 (by have := HFL.out; simp only [List.length_append, List.length_take] at *; omega) (by omega) (by omega)
      have hcb := HTX.out.2.2 k (by rw [HNN.out.2]; exact hkn)
      rw [HNN.out.1] at hcb
      rw [hcb] at hrd
      have HRD := Lib.hid hrd; clear hrd hcb
      go_wp2_with fail
      rw [Bs_append]
      refine HRD.out.mono ?_
      rintro e w11 ⟨hb, gf, rfl, _, hF⟩
      have hb11 := below_then hb10 hb
      have hev11 := hev10.below hb
      clear hb10 hev10 hb HRD hcut hck
      have HN0 := Lib.hid (show (segC SegM.none_ nilS nilS nilS nilS nilS).all (·.oneCell') = true from one13 _ _ _ _ _ _ rfl rfl rfl rfl rfl)
      go_upto_region 15 with (refine wpList_store_row rfl _ _ _ rfl _ _ rfl rfl _ _ (Blk.new w11 _ _) size13R rfl HN0.out ?_)
      have hb : Below w11.heap.size w11 ((w11.alloc (.cells #[.int .u8 0, .int .i64 0, .int .i64 0, .slice none 0 0, .slice none 0 0, .int .u8 0, .int .i64 0, .int .i64 0, .slice none 0 0, .slice none 0 0, .slice none 0 0, .int .i64 0, .string (ByteArray.mk #[])] 30)).setRow w11.heap.size (segC SegM.none_ nilS nilS nilS nilS nilS)) := grown_below (grown_row (grown_alloc (grown_of_below (Below.refl _ _) none) _) (.inl (Nat.le_refl _)) _)
      generalize ((w11.alloc (.cells #[.int .u8 0, .int .i64 0, .int .i64 0, .slice none 0 0, .slice none 0 0, .int .u8 0, .int .i64 0, .int .i64 0, .slice none 0 0, .slice none 0 0, .slice none 0 0, .int .i64 0, .string (ByteArray.mk #[])] 30)).setRow w11.heap.size (segC SegM.none_ nilS nilS nilS nilS nilS)) = w12 at hb ⊢
      have hF12 := hF.kept hb
      have hb12 := below_then hb11 hb
      have hev12 := hev11.below hb
      clear hF hb11 hev11 hb
      generalize w11.heap.size = g11
      have HTO := Lib.hid (told_fault 44 ((nx + k : Nat) : Int) gf w12 hev12 hF12 (by decide))
      clear hF12 hev12
      go_wp2_with fail
      refine HTO.out.mono ?_
      rintro e w13 ⟨rfl, hb⟩
      have hb13 := below_then hb12 hb
      clear hb12 hb HTO
      obtain ⟨P, hP⟩ : ∃ P, ((nx + k : Nat) : Int) = P := ⟨_, rfl⟩
      rw [hP]
      go_upto_region 16 with fail
      have hG := Blk.new w13 44 #[.int .i64 44, .int .i64 P]
      have hb14 : Below w.heap.size w (w13.alloc (.cells #[.int .i64 44, .int .i64 P] 44)) := hb13.alloc hb13.size _
      generalize (w13.alloc (.cells #[.int .i64 44, .int .i64 P] 44)) = w14 at hG hb14 ⊢
      generalize w13.heap.size = g13 at hG ⊢
      have k0 : w14.cell? ⟨g13, 0, none⟩ = some (.int .i64 44) := by rw [hG.cell]; rfl
      have k1 : w14.cell? ⟨g13, 1, none⟩ = some (.int .i64 P) := by rw [hG.cell]; rfl
      have hwp : IntKind.i64.wrap ((nx : Int) + (k : Int)) = P := by rw [← hP]; exact IntWalk.i64_in _ (by omega)
      clear hP hG hb13
      go_wp2_with fail
      go_ret
      exact ⟨rfl, hb14⟩
end Go.Proofs.YtjfgfoeenajneaaDoor.Sg
