/- The program's bytes of tables of steps. The program's bytes: plain data, numbers of restarts. The program's bytes: numbers of restarts. -/
import Derived.Test.YtjfgfoeenajneaaGreatDoorGB2
import Derived.Test.YtjfgfoeenajneaaGreatDoorGB1
import Derived.Test.YtjfgfoeenajneaaGreatDoorGA4
import Derived.Laws.BitsAllLaws
import Derived.Lib.ConvBytes
namespace Go.Proofs.YtjfgfoeenajneaaGreatDoor.Sg
open Go.RowKit

theorem one_cells (x : Nat) (h : x < 256) : [Value.int .u8 (x : Int)] = u8s (nats [UInt8.ofNat x]) := by
  unfold u8s nats
  simp
  omega
theorem app_own {w : World} {base : Nat} {v : Value} {L m : List UInt8} {n : Nat} {news : List Value} (h : w.ownsRow base 5 1 v (L.length + n) (u8s (nats L) ++ news)) (hn : news = u8s (nats m)) (hl : m.length = n) : OwnB w base v (L ++ m) := by
  unfold OwnB
  rw [List.length_append, hl, ← u8s_nats_append, ← hn]
  exact h
theorem own_ne {w : World} {base g : Nat} {t : TypeId} {cs : Array Value} {v : Value} {l : List UInt8} (h : OwnB w base v l) (hg : Blk w g t cs) (ht : t ≠ 5) : v.ownBlock ≠ some g := by
  intro e
  rcases h.2 with ⟨rfl, _⟩ | ⟨g', c, cur, rfl, _, hg', _⟩
  · cases e
  · injection e with e
    subst e
    unfold Blk at hg
    rw [hg'] at hg
    injection hg with hg
    injection hg with _ h2 _
    exact ht h2.symm
theorem own_base {w : World} {base g : Nat} {v : Value} {l : List UInt8} (h : OwnB w base v l) (e : v.ownBlock = some g) : base ≤ g := (h.lt g e).1
/-- behind an append to a row of one's own nothing else has turned -/
theorem grown_app {a w w' : World} {v : Value} {base : Nat} {l : List UInt8} (hb : Below a.heap.size a w) (hv : OwnB w base v l) (hba : a.heap.size ≤ base) (o : Obj) (hg : (w.alloc o).grownBy w' v.ownBlock) : Below a.heap.size a w' :=
  grown_below (grown_own (grown_alloc (below_grown hb none) o) hg fun _ e => .inl (Nat.le_trans hba (own_base hv e)))
theorem blk_app {w w' : World} {v : Value} {base g : Nat} {t : TypeId} {cs : Array Value} {l : List UInt8} (hv : OwnB w base v l) (hg : Blk w g t cs) (ht : t ≠ 5) (o : Obj) (hk : (w.alloc o).grownBy w' v.ownBlock) : Blk w' g t cs :=
  (hg.alloc o).keeps (hk.block g (hg.alloc o).lt (fun e => own_ne hv hg ht e.symm))
/-- what is written, or the error -/
def WrP (w : World) (r : Res (List UInt8)) (e : Ending) (w' : World) : Prop :=
  match r with
  | .bad c => e = .returned (.tuple #[.slice none 0 0, .int .i64 (c : Nat)]) ∧ Below w.heap.size w w'
  | .ok d => ∃ v, e = .returned (.tuple #[v, .int .i64 0]) ∧ OwnB w' w.heap.size v d ∧ Below w.heap.size w w'
def quantR (l : List QuantM) : Res (List UInt8) := if l.any quantBad then .bad 153 else .ok (l.flatMap quantB)
theorem qc_bad (q : QuantM) (h : ¬ 3 < q.id) : quantBad q = true ↔ qcM q.tab q.wide ≠ 0 := by
  unfold quantBad qcM
  rw [decide_eq_false h]
  cases zeroM q.tab <;> cases largeM q.tab <;> cases q.wide <;> simp
set_option maxRecDepth 100000 in
set_option maxHeartbeats 32000000 in
theorem written_q (m : SegM) (vq vh vc vp vi : Value) (w : World) (hm : SegAt w m vq vh vc vp vi) (hok : SegOk m) (hcode : m.code = 219) :
    Calls Tryz.prog 53 #[.agg (segC m vq vh vc vp vi)] w (WrP w (quantR m.quants)) := by
  have hu : Blk (w.alloc (.cells (segC m vq vh vc vp vi) 31)) w.heap.size 31 (segC m vq vh vc vp vi) := Blk.new w _ _
  have hb : Below w.heap.size w (w.alloc (.cells (segC m vq vh vc vp vi) 31)) := (Below.refl _ _).alloc (Nat.le_refl _) _
  obtain ⟨A, cq, rfl, hrow⟩ := hm.q
  have hqs := hok.quants
  have hfew := hok.fewQ
  clear hm hok
  have g0 : (w.alloc (.cells (segC m (.slice A m.quants.length cq) vh vc vp vi) 31)).cell? ⟨w.heap.size, 0, none⟩ = some (.int .u8 219) := by rw [hu.cell]; unfold segC; rw [hcode]; rfl
  have g3 : (w.alloc (.cells (segC m (.slice A m.quants.length cq) vh vc vp vi) 31)).cell? ⟨w.heap.size, 3, none⟩ = some (.slice A m.quants.length cq) := by rw [hu.cell]; rfl
  obtain ⟨hln, hat⟩ := rows_at (by decide) (fun q hm => quantC_length q (hqs q hm).2.1) hrow
  have HAT := Lib.hid hat; clear hat hrow hu hln
  have HQ := Lib.hid hqs; clear hqs
  obtain ⟨ib, ib1, ib2, ib3, ib4⟩ := info_parts infoB
  have IB := Lib.hid (And.intro ib1 (And.intro ib2 (And.intro ib3 ib4))); clear ib1 ib2 ib3 ib4
  go_enter Tryz.func53, Tryz.ntmps53
  go_upto_region 1 with fail
  generalize hsv : (segC m (.slice A m.quants.length cq) vh vc vp vi) = sv at *
  generalize hw1 : (w.alloc (.cells sv 31)) = w1 at *
  generalize hag : w.heap.size = s at g0 g3 ⊢
  have hbase : w.heap.size ≤ w1.heap.size := hb.size
  obtain ⟨base, hbs⟩ : ∃ base, w.heap.size = base := ⟨_, rfl⟩
  have HAG := Lib.hid (And.intro hag hbs)
  rw [hbs] at hbase
  clear hsv hag hcode hw1
  have HB := Lib.hid hb
  generalize m.quants = l at *
  generalize hnl : l.length = n at *
  have HN := Lib.hid hnl; clear hnl
  go_wp2_with fail
  clear g0 g3 hb
  go_loopw [4, 29] (fun v i wr => ∃ k : Nat, k ≤ n ∧ i = .int .i64 k ∧ OwnB wr base v ((l.take k).flatMap quantB) ∧ (l.take k).any quantBad = false ∧ Below w.heap.size w wr) (fun _ i _ => n - (intOf i).toNat)
  case atStart => exact ⟨0, by omega, rfl, OwnB.nil _ _, rfl, HB.out⟩
  case round =>
    obtain ⟨k, hk, rfl, hown, hbad, hb⟩ := hrel
    have HBAD := Lib.hid hbad; clear hbad
    by_cases hlt : k < n
    · obtain ⟨b, o, rfl, hat⟩ := HAT.out (by omega)
      obtain ⟨q, hqk⟩ : ∃ q, l[k]? = some q := ⟨l[k]'(by rw [HN.out]; exact hlt), List.getElem?_eq_getElem _⟩
      have hok := HQ.out q (List.mem_of_getElem? hqk)
      obtain ⟨hid, htl, htv⟩ := hok
      have HRE := Lib.hid (range_below (hat k q hqk) hb)
      have HS66 := Lib.hid (size66q htl)
      have hi1 : (Tryz.prog.info? 81).map (·.size) = some (quantC q).toArray.size := by rw [List.size_toArray]; exact size66q htl
      have hi2 : Tryz.zeroCells81.size = (quantC q).toArray.size := by rw [zq, List.size_toArray, List.size_toArray, quantC_length q htl, quantF_length _ _ _ _ (by omega) (.inr rfl)]
      have hi3 : (quantC q).toArray.all (·.oneCell') = true := by
        rw [Array.all_eq_true_iff_forall_mem]
        intro u hu
        exact quantC_one q u (by simpa using hu)
      have HI := Lib.hid (And.intro hi1 (And.intro hi2 hi3)); clear hi1 hi2 hi3
      have hlen := quants_len (l := l.take k) (fun x hx => HQ.out x (List.mem_of_mem_take hx))
      rw [List.length_take] at hlen
      have hanyn : (l.take (k + 1)).any quantBad = quantBad q := by rw [take_next hqk, List.any_append, HBAD.out]; simp
      have hflat : (l.take (k + 1)).flatMap quantB = (l.take k).flatMap quantB ++ quantB q := by rw [take_next hqk, List.flatMap_append]; simp
      have HNX := Lib.hid (And.intro hanyn hflat); clear hanyn hflat
      generalize (l.take k).flatMap quantB = t at hlen HNX hown
      have HQK := Lib.hid hqk; clear hqk hat
      have hlen' : t.length ≤ 10000000000 := by omega
      have hbsz : base ≤ wr.heap.size := by have := hb.size; have := HAG.out.2; omega
      clear hlen
      go_upto_region 8 with (first | (refine wpList_load_mid rfl _ _ rfl b (o + k * 66) rfl _ _ HRE.out Tryz.underlying81 rfl HS66.out ?_) | (refine wpList_store_row rfl _ _ _ rfl _ _ rfl rfl _ _ (Blk.new wr _ _) HI.out.1 HI.out.2.1 HI.out.2.2 ?_))
      have hq2 : Blk ((wr.alloc (.cells Tryz.zeroCells81 81)).setRow wr.heap.size (quantC q).toArray) wr.heap.size 81 (quantC q).toArray := (Blk.new wr _ _).row
      have hb2 : Below wr.heap.size wr ((wr.alloc (.cells Tryz.zeroCells81 81)).setRow wr.heap.size (quantC q).toArray) := grown_below (grown_row (grown_alloc (grown_of_below (Below.refl _ _) none) _) (.inl (Nat.le_refl _)) _)
      generalize ((wr.alloc (.cells Tryz.zeroCells81 81)).setRow wr.heap.size (quantC q).toArray) = w2 at hq2 hb2 ⊢
      generalize hgg : wr.heap.size = g at hq2 ⊢
      have HGG := Lib.hid hgg; clear hgg
      have hown' := hown.below hb2
      have hbsz2 : base ≤ w2.heap.size := by have := hb2.size; omega
      have hb3 := below_then hb hb2
      clear hb hb2 hown hbsz
      have hown := hown'
      clear hown'
      have hs64 : (Tryz.prog.info? 79).map (·.size) = some (q.tab.map fun (n : Nat) => Value.int .u16 (n : Int)).length := by rw [List.length_map, htl]; exact size64
      have HS64 := Lib.hid hs64; clear hs64
      have e0 : w2.cell? ⟨g, 0, none⟩ = some (.int .u8 (q.id : Nat)) := by rw [hq2.cell]; rfl
      have e1 : w2.cell? ⟨g, 1, none⟩ = some (.bool q.wide) := by rw [hq2.cell]; rfl
      have HTL := Lib.hid htl
      have HTV := Lib.hid htv; clear htv htl
      have ht3 : ∀ j, j < 64 → w2.cell? ⟨g, 2 + j, none⟩ = some (.int .u16 (q.tab.getD j 0 : Nat)) := fun j hj => by
        rw [hq2.cell]
        unfold quantC
        rw [List.getElem?_toArray, show 2 + j = (j + 1) + 1 by omega, List.getElem?_cons_succ, List.getElem?_cons_succ, List.getElem?_map, List.getD_eq_getElem?_getD, List.getElem?_eq_getElem (by rw [HTL.out]; exact hj)]
        rfl
      have HT3 := Lib.hid ht3; clear ht3
      have hfin : quantBad q = true → quantR l = .bad 153 := fun h => by
        have h9 := any_of_take (HNX.out.1.trans h)
        unfold quantR
        rw [h9]
        rfl
      have HFIN := Lib.hid hfin; clear hfin
      by_cases h3 : 3 < q.id
      · have hres := HFIN.out (by unfold quantBad; simp [h3])
        have HR := Lib.hid hres; clear hres
        go_wp2_with fail
        go_ret2
        rw [HR.out]
        exact ⟨rfl, hb3⟩
      have hqb := qc_bad q h3
      have hla : quantBad q = false → q.wide = false → ∀ x ∈ q.tab, x ≤ 255 := fun h hw x hx => by
        unfold quantBad at h
        rw [hw, Bool.or_eq_false_iff] at h
        have h2 := h.2
        unfold largeM at h2
        simp at h2
        exact h2 x hx
      generalize hww : q.wide = W at hqb e1 hla
      have HWW := Lib.hid (And.intro hww hla); clear hww hla
      go_wp2_with fail
      refine (quantCheck_any q.tab W g 2 w2 HTL.out HT3.out).mono ?_
      rintro e w3 ⟨rfl, rfl⟩
      generalize qcM q.tab W = c at hqb ⊢
      by_cases hc0 : c = 0
      case neg =>
        have hres := HFIN.out (hqb.2 hc0)
        have HR := Lib.hid hres; clear hres hqb
        have hcb : ((c : Int) != 0) = true := by simpa using hc0
        have hcb2 : ¬ ((c : Int) = 0) := by omega
        go_wp2_with fail
        go_ret2
        rw [HR.out]
        exact ⟨rfl, hb3⟩
      have hgood : quantBad q = false := by
        cases hh : quantBad q
        · rfl
        · exact absurd hc0 (hqb.1 hh)
      subst hc0
      have HGOOD := Lib.hid hgood; clear hgood hqb
      have hi3' : (q.id : Int) ≤ 3 := by omega
      have hwb : w.heap.size ≤ base := by have := HAG.out.2; omega
      cases W
      case false =>
        have hla := HWW.out.2 HGOOD.out rfl
        have HLA := Lib.hid hla; clear hla
        go_upto_region 12 with (at_builtin; refine wpList_append_lies _ rfl (.tmp 46) (.tmp 49) 29 rfl base 5 ib (.int .u8 0) 1 1 Tryz.underlying29 IB.out.1 IB.out.2.1 IB.out.2.2.1 IB.out.2.2.2 rfl (by decide) _ (t).length (u8s (nats (t))) rfl (hown.alloc _) ⟨w2.heap.size, 0, none⟩ 1 1 [.int .u8 (q.id : Int)] rfl rfl (laid_new _ _ _) (by intro u hu; simp at hu; (try rcases hu with rfl | rfl | rfl) <;> (try subst hu) <;> rfl) (by decide) (by unfold maxLen; omega) (by omega) (by simp; omega) (w2.heap.size + 1) (by simp) ?_; intro gg cap w6 hown6 hgrow6 hat6 hlt6)
        have hb6 := grown_app hb3 hown hwb _ hgrow6
        have hq6 := blk_app hown hq2 (by decide) _ hgrow6
        have hown7 := app_own hown6 (one_cells _ (by omega)) rfl
        have hsz6 : base ≤ w6.heap.size := by have := hgrow6.size; simp at this; omega
        have HRG := Lib.hid (Blk.range hq6 2 _ (tabs_range q))
        clear hgrow6 hown6 hq2 hq6 e0 e1 hat6 hlt6 hb3 hown hbsz2
        generalize (Value.slice (some ⟨gg, 0, none⟩) (t.length + 1) cap) = v6 at hown7 ⊢
        generalize hB : UInt8.ofNat q.id = B at hown7
        have hw0 : t ++ [B] = t ++ quantW q 0 := by rw [← hB]; unfold quantW; rw [HWW.out.1]; rfl
        clear hB
        rw [hw0] at hown7
        clear hw0
        go_wp2_with (refine wpList_load_mid rfl _ _ rfl g 2 rfl _ _ HRG.out Tryz.underlying79 rfl HS64.out ?_)
        go_loopw [4, 53] (fun s j wr2 => ∃ i : Nat, i ≤ 64 ∧ j = .int .i64 i ∧ OwnB wr2 base s (t ++ quantW q i) ∧ Below w.heap.size w wr2) (fun _ j _ => 64 - (intOf j).toNat)
        case atStart => exact ⟨0, by omega, rfl, hown7, hb6⟩
        clear hown7 hb6 hsz6
        case round =>
          obtain ⟨i, hi, rfl, hown, hb6⟩ := hrel
          have hlenW := quantW_len q i (by rw [HTL.out]; exact hi)
          have hbsz : base ≤ wr.heap.size := by have := hb6.size; have := HAG.out.2; omega
          by_cases hlt2 : i < 64
          · have hxb := HLA.out _ (getD_mem (l := q.tab) (k := i) (by rw [HTL.out]; exact hlt2))
            have hW := quantW_next (q := q) (k := i) (by rw [HTL.out]; exact hlt2)
            rw [HWW.out.1] at hW
            have hget : (q.tab.map fun (n : Nat) => Value.int .u16 (n : Int)).toArray[i]? = some (.int .u16 (q.tab.getD i 0 : Nat)) := u16s_get _ _ (by rw [HTL.out]; exact hlt2)
            generalize q.tab.getD i 0 = x at hxb hW hget
            have hidx : ∀ u, (Instr.index 79 (.agg (q.tab.map fun (n : Nat) => Value.int .u16 (n : Int)).toArray) (.int .i64 (i : Int))).run Tryz.prog u = .ok (.int .u16 (x : Int)) u := fun u => run_index_plain Tryz.underlying79 plain16 cell16 inf16 hlt2 hget u
            clear hget
            have hxi : (x : Int) ≤ 255 := by omega
            have HWN := Lib.hid hW; clear hW
            generalize quantW q i = u at hlenW HWN hown
            go_upto_region 15 with fail
            clear hidx
            have hlu : (t ++ u).length ≤ 20000000000 := by rw [List.length_append]; omega
            generalize hU : t ++ u = U at hlu hown
            have HU := Lib.hid hU; clear hU
            go_wp2_with (at_builtin; refine wpList_append_lies _ rfl (.tmp 56) (.tmp 59) 29 rfl base 5 ib (.int .u8 0) 1 1 Tryz.underlying29 IB.out.1 IB.out.2.1 IB.out.2.2.1 IB.out.2.2.2 rfl (by decide) _ (U).length (u8s (nats (U))) rfl (hown.alloc _) ⟨wr.heap.size, 0, none⟩ 1 1 [.int .u8 (x : Int)] rfl rfl (laid_new _ _ _) (by intro u hu; simp at hu; (try rcases hu with rfl | rfl | rfl) <;> (try subst hu) <;> rfl) (by decide) (by unfold maxLen; omega) (by omega) (by simp; omega) (wr.heap.size + 1) (by simp) ?_; intro gg cap w6 hown6 hgrow6 hat6 hlt6)
            have hb7 := grown_app hb6 hown hwb _ hgrow6
            have hown7 := app_own hown6 (one_cells x (by omega)) rfl
            go_roundw
            case rel => exact ⟨i + 1, by omega, by go_num, by rw [HWN.out, ← List.append_assoc, HU.out]; exact hown7, hb7⟩
            case measure => simp [intOf]; omega
          · obtain rfl : i = 64 := by omega
            rw [quantW_all HTL.out, ← HNX.out.2] at hown
            clear hlenW
            go_wp2_with fail
            go_roundw
            case rel => exact ⟨k + 1, by omega, by go_num, hown, by rw [HNX.out.1]; exact HGOOD.out, hb6⟩
            case measure => simp [intOf]; omega
      case true =>
        have hor : bits .or .u8 (16 : Int) (q.id : Int) = ((16 + q.id : Nat) : Int) := by
          rw [show (16 : Int) = ((16 : Nat) : Int) from rfl, u8_or_nat 16 q.id (by omega) (by omega)]
          have h9 := Nat.two_pow_add_eq_or_of_lt (i := 4) (b := q.id) (by omega) 1
          rw [show 2 ^ 4 * 1 = 16 from rfl] at h9
          rw [h9]
        go_upto_region 18 with (at_builtin; refine wpList_append_lies _ rfl (.tmp 62) (.tmp 66) 29 rfl base 5 ib (.int .u8 0) 1 1 Tryz.underlying29 IB.out.1 IB.out.2.1 IB.out.2.2.1 IB.out.2.2.2 rfl (by decide) _ (t).length (u8s (nats (t))) rfl (hown.alloc _) ⟨w2.heap.size, 0, none⟩ 1 1 [.int .u8 ((16 + q.id : Nat) : Int)] rfl rfl (laid_new _ _ _) (by intro u hu; simp at hu; (try rcases hu with rfl | rfl | rfl) <;> (try subst hu) <;> rfl) (by decide) (by unfold maxLen; omega) (by omega) (by simp; omega) (w2.heap.size + 1) (by simp) ?_; intro gg cap w6 hown6 hgrow6 hat6 hlt6)
        have hb6 := grown_app hb3 hown hwb _ hgrow6
        have hq6 := blk_app hown hq2 (by decide) _ hgrow6
        have hown7 := app_own hown6 (one_cells _ (by omega)) rfl
        have HRG := Lib.hid (Blk.range hq6 2 _ (tabs_range q))
        clear hgrow6 hown6 hq2 hq6 e0 e1 hat6 hlt6 hb3 hown hbsz2 hor
        generalize (Value.slice (some ⟨gg, 0, none⟩) (t.length + 1) cap) = v6 at hown7 ⊢
        generalize hB : UInt8.ofNat (16 + q.id) = B at hown7
        have hw0 : t ++ [B] = t ++ quantW q 0 := by rw [← hB]; unfold quantW; rw [HWW.out.1]; rfl
        clear hB
        rw [hw0] at hown7
        clear hw0
        go_wp2_with (refine wpList_load_mid rfl _ _ rfl g 2 rfl _ _ HRG.out Tryz.underlying79 rfl HS64.out ?_)
        go_loopw [4, 70] (fun s j wr2 => ∃ i : Nat, i ≤ 64 ∧ j = .int .i64 i ∧ OwnB wr2 base s (t ++ quantW q i) ∧ Below w.heap.size w wr2) (fun _ j _ => 64 - (intOf j).toNat)
        case atStart => exact ⟨0, by omega, rfl, hown7, hb6⟩
        clear hown7 hb6
        case round =>
          obtain ⟨i, hi, rfl, hown, hb6⟩ := hrel
          have hlenW := quantW_len q i (by rw [HTL.out]; exact hi)
          have hbsz : base ≤ wr.heap.size := by have := hb6.size; have := HAG.out.2; omega
          by_cases hlt2 : i < 64
          · have hxb := HTV.out _ (getD_mem (l := q.tab) (k := i) (by rw [HTL.out]; exact hlt2))
            have hW := quantW_next (q := q) (k := i) (by rw [HTL.out]; exact hlt2)
            rw [HWW.out.1] at hW
            have hget : (q.tab.map fun (n : Nat) => Value.int .u16 (n : Int)).toArray[i]? = some (.int .u16 (q.tab.getD i 0 : Nat)) := u16s_get _ _ (by rw [HTL.out]; exact hlt2)
            generalize q.tab.getD i 0 = x at hxb hW hget
            have hidx : ∀ u, (Instr.index 79 (.agg (q.tab.map fun (n : Nat) => Value.int .u16 (n : Int)).toArray) (.int .i64 (i : Int))).run Tryz.prog u = .ok (.int .u16 (x : Int)) u := fun u => run_index_plain Tryz.underlying79 plain16 cell16 inf16 hlt2 hget u
            clear hget
            have hxi : (x : Int) ≤ 65535 := by omega
            have HWN := Lib.hid hW; clear hW
            generalize quantW q i = u at hlenW HWN hown
            go_upto_region 21 with fail
            clear hidx
            have hlu : (t ++ u).length ≤ 20000000000 := by rw [List.length_append]; omega
            generalize hU : t ++ u = U at hlu hown
            have HU := Lib.hid hU; clear hU
            go_wp2_with fail
            refine (two_own base _ U x wr hown hbsz (by omega) (by omega)).mono ?_
            rintro e w6 ⟨v6, rfl, hown7, hgrow6⟩
            have hb7 := grown_below (grown_own (below_grown hb6 none) hgrow6 fun g e => .inl (Nat.le_trans hwb (own_base hown e)))
            go_wp2_with fail
            go_roundw
            case rel => exact ⟨i + 1, by omega, by go_num, by rw [HWN.out, ← List.append_assoc, HU.out]; exact hown7, hb7⟩
            case measure => simp [intOf]; omega
          · obtain rfl : i = 64 := by omega
            rw [quantW_all HTL.out, ← HNX.out.2] at hown
            clear hlenW
            go_wp2_with fail
            go_roundw
            case rel => exact ⟨k + 1, by omega, by go_num, hown, by rw [HNX.out.1]; exact HGOOD.out, hb6⟩
            case measure => simp [intOf]; omega
    · obtain rfl : k = n := by omega
      have hall : l.take k = l := List.take_of_length_le (by rw [HN.out]; exact Nat.le_refl _)
      have hb9 := HBAD.out
      rw [hall] at hb9 hown
      have hres : quantR l = .ok (l.flatMap quantB) := by unfold quantR; rw [hb9]; rfl
      have HR := Lib.hid hres; clear hres hb9 hall
      go_wp2_with fail
      go_ret2
      rw [HR.out]
      exact ⟨_, rfl, by rw [HAG.out.2]; exact hown, hb⟩
end Go.Proofs.YtjfgfoeenajneaaGreatDoor.Sg
namespace Go.Proofs.YtjfgfoeenajneaaGreatDoor.Sg
open Go.RowKit

/-- what is written, or the error: the bytes behind a slice -/
def WrS (w : World) (r : Res (List UInt8)) (e : Ending) (w' : World) : Prop :=
  match r with
  | .bad c => e = .returned (.tuple #[.slice none 0 0, .int .i64 (c : Nat)]) ∧ Below w.heap.size w w'
  | .ok d => ∃ A c, e = .returned (.tuple #[.slice A d.length c, .int .i64 0]) ∧ Sl w' A d.length (u8s (nats d)) ∧ (d.length = 0 → A = none ∨ ∃ b o, A = some ⟨b, o, none⟩) ∧ Below w.heap.size w w'
theorem own_sl {w : World} {base : Nat} {v : Value} {l : List UInt8} (h : OwnB w base v l) : ∃ A c, v = .slice A l.length c ∧ Sl w A l.length (u8s (nats l)) ∧ (l.length = 0 → A = none ∨ ∃ b o, A = some ⟨b, o, none⟩) := by
  have h1 := h.1
  rcases h.2 with ⟨rfl, h0⟩ | ⟨g, c, cur, rfl, _, hg, hnc, _, hcs, ht⟩
  · refine ⟨none, 0, by rw [h0], ⟨by simpa using h1, fun h => by omega⟩, fun _ => .inl rfl⟩
  · refine ⟨_, c, rfl, ⟨by simpa using h1, fun _ => ⟨g, 0, rfl, fun j hj => ?_⟩⟩, fun _ => .inr ⟨g, 0, rfl⟩⟩
    rw [cell_of_row w g (0 + j) cur _ (0, 0) hg, Nat.zero_add, ← ht, List.getElem?_take, if_pos (by omega)]
    simp
theorem wr_s {w w' : World} {r : Res (List UInt8)} {e : Ending} (h : WrP w r e w') : WrS w r e w' := by
  cases r with
  | bad c => exact h
  | ok d =>
    obtain ⟨v, he, ho, hb⟩ := h
    obtain ⟨A, c, rfl, h1, h2⟩ := own_sl ho
    exact ⟨A, c, he, h1, h2, hb⟩
set_option maxRecDepth 100000 in
set_option maxHeartbeats 8000000 in
theorem written_d (m : SegM) (vq vh vc vp vi : Value) (w : World) (hok : SegOk m) (hcode : ¬ (m.code = 219 ∨ m.code = 196 ∨ m.code = 192 ∨ m.code = 193 ∨ m.code = 218 ∨ m.code = 221)) :
    Calls Tryz.prog 53 #[.agg (segC m vq vh vc vp vi)] w (WrS w (.ok m.data)) := by
  have hu : Blk (w.alloc (.cells (segC m vq vh vc vp vi) 31)) w.heap.size 31 (segC m vq vh vc vp vi) := Blk.new w _ _
  have hb : Below w.heap.size w (w.alloc (.cells (segC m vq vh vc vp vi) 31)) := (Below.refl _ _).alloc (Nat.le_refl _) _
  have hc8 := hok.code
  have g0 : (w.alloc (.cells (segC m vq vh vc vp vi) 31)).cell? ⟨w.heap.size, 0, none⟩ = some (.int .u8 (m.code : Nat)) := by rw [hu.cell]; rfl
  have g12 : (w.alloc (.cells (segC m vq vh vc vp vi) 31)).cell? ⟨w.heap.size, 12, none⟩ = some (.string (Bs m.data)) := by rw [hu.cell]; rfl
  clear hu hok
  go_enter Tryz.func53, Tryz.ntmps53
  go_upto_region 1 with fail
  generalize (segC m vq vh vc vp vi) = sv at *
  generalize (w.alloc (.cells sv 31)) = w1 at *
  generalize w.heap.size = s at g0 g12 ⊢
  generalize m.code = code at *
  generalize m.data = d at *
  have q1 : ((code : Int) == 219) = false := beq_false_of_ne (by omega)
  have q2 : ((code : Int) == 196) = false := beq_false_of_ne (by omega)
  have q3 : ((code : Int) == 218) = false := beq_false_of_ne (by omega)
  have q4 : ((code : Int) == 221) = false := beq_false_of_ne (by omega)
  have q5 : ((code : Int) == 192) = false := beq_false_of_ne (by omega)
  have q6 : ((code : Int) == 193) = false := beq_false_of_ne (by omega)
  have hcv := Go.Lib.run_convert_string_bytes (P := Tryz.prog) w1 9 29 5 (Bs d) Tryz.underlying9 Tryz.underlying29 Tryz.underlying5
  have hold := Go.Lib.bytesWorld_at_old w1 5 (Bs d)
  have hcell := Go.Lib.bytesWorld_cell w1 5 (Bs d)
  have hsz := Go.Lib.bytesWorld_size w1 5 (Bs d)
  have hbb : Below w1.heap.size w1 (Go.Lib.bytesWorld w1 5 (Bs d)) := ⟨rfl, rfl, rfl, by rw [hsz]; omega, fun i hi => hold i hi⟩
  rw [Bs_size] at hcv hcell
  generalize Go.Lib.bytesWorld w1 5 (Bs d) = w2 at hcv hcell hbb
  generalize grownCap w1 d.length 0 5 = cap at hcv
  have HX := Lib.hid (And.intro hcell hbb); clear hold hcell hsz hbb
  go_wp2_with fail
  go_ret2
  refine ⟨_, cap, rfl, ⟨by rw [u8s_length]; simp [nats], fun _ => ⟨w1.heap.size, 0, rfl, fun j hj => ?_⟩⟩, fun _ => .inr ⟨_, _, rfl⟩, below_then hb HX.out.2⟩
  rw [Nat.zero_add, HX.out.1 j hj, u8s_get (by unfold nats; rw [List.length_map]; exact hj)]
  unfold nats Bs
  rw [List.getD_eq_getElem?_getD, List.getD_eq_getElem?_getD, List.getElem?_map, List.getElem?_eq_getElem hj]
  simp
end Go.Proofs.YtjfgfoeenajneaaGreatDoor.Sg
namespace Go.Proofs.YtjfgfoeenajneaaGreatDoor.Sg
open Go.RowKit

set_option maxRecDepth 100000 in
set_option maxHeartbeats 8000000 in
theorem written_r (m : SegM) (vq vh vc vp vi : Value) (w : World) (hok : SegOk m) (hcode : m.code = 221) :
    Calls Tryz.prog 53 #[.agg (segC m vq vh vc vp vi)] w (WrS w (dataM m)) := by
  have hdm := dataM_r hcode
  have hu : Blk (w.alloc (.cells (segC m vq vh vc vp vi) 31)) w.heap.size 31 (segC m vq vh vc vp vi) := Blk.new w _ _
  have hb : Below w.heap.size w (w.alloc (.cells (segC m vq vh vc vp vi) 31)) := (Below.refl _ _).alloc (Nat.le_refl _) _
  have g0 : (w.alloc (.cells (segC m vq vh vc vp vi) 31)).cell? ⟨w.heap.size, 0, none⟩ = some (.int .u8 221) := by rw [hu.cell]; unfold segC; rw [hcode]; rfl
  have g11 : (w.alloc (.cells (segC m vq vh vc vp vi) 31)).cell? ⟨w.heap.size, 11, none⟩ = some (.int .i64 m.restart) := by rw [hu.cell]; rfl
  obtain ⟨r1, r2⟩ := hok.rs
  clear hu hok hcode
  go_enter Tryz.func53, Tryz.ntmps53
  go_upto_region 1 with fail
  generalize (segC m vq vh vc vp vi) = sv at *
  have hbase : w.heap.size ≤ (w.alloc (.cells sv 31)).heap.size := hb.size
  generalize (w.alloc (.cells sv 31)) = w1 at *
  generalize hs : w.heap.size = s at g0 g11 ⊢
  have HS := Lib.hid hs; clear hs
  generalize dataM m = R at *
  generalize m.restart = r at *
  have HDM := Lib.hid hdm; clear hdm
  by_cases hneg : r < 0
  · have hres := HDM.out
    rw [if_pos (.inl hneg)] at hres
    have HR := Lib.hid hres; clear hres
    go_wp2_with fail
    go_ret2
    rw [HR.out]
    exact ⟨rfl, hb⟩
  by_cases hbg : 65535 < r
  · have hres := HDM.out
    rw [if_pos (.inr hbg)] at hres
    have HR := Lib.hid hres; clear hres
    go_wp2_with fail
    go_ret2
    rw [HR.out]
    exact ⟨rfl, hb⟩
  have hres := HDM.out
  rw [if_neg (by omega)] at hres
  obtain ⟨x, rfl⟩ : ∃ x : Nat, r = x := ⟨r.toNat, by omega⟩
  rw [Int.toNat_natCast] at hres
  have HR := Lib.hid hres; clear hres HDM
  go_wp2_with fail
  refine (two_own w.heap.size (.slice none 0 0) [] x w1 (OwnB.nil _ _) hbase (by omega) (by simp)).mono ?_
  rintro e w2 ⟨v, rfl, hown, hgr⟩
  have hb2 := grown_below (grown_own (below_grown hb none) hgr fun g e => by cases e)
  go_wp2_with fail
  go_ret2
  rw [HR.out]
  exact wr_s (r := .ok (num2 x)) ⟨_, rfl, hown, hb2⟩
end Go.Proofs.YtjfgfoeenajneaaGreatDoor.Sg
