/- The program's look at a frame: the greatest factors. The program's check of a frame. The program's word on a frame. -/
import Derived.Test.YtjfgfoeenajneaaGreatDoorGA9
namespace Go.Proofs.YtjfgfoeenajneaaGreatDoor.Sg
open Go.RowKit

set_option maxRecDepth 100000 in
set_option maxHeartbeats 16000000 in
theorem most_any (kind : Nat) (wd ht : Int) (l : List CompM) (A : Option Addr) (n cap : Nat) (w : World) (hc : Rows 4 w A n (l.flatMap compC)) (hn : n ≤ 1152921504606846976) (hb8 : ∀ c ∈ l, c.id < 256 ∧ c.h < 256 ∧ c.v < 256 ∧ c.q < 256) :
    Calls Tryz.prog 109 #[.agg #[.int .u8 (kind : Int), .int .i64 wd, .int .i64 ht, .slice A n cap]] w fun e w' => e = .returned (.tuple #[.int .i64 (mostM (·.h) l : Nat), .int .i64 (mostM (·.v) l : Nat)]) ∧ Below w.heap.size w w' := by
  have hu : Blk (w.alloc (.cells #[.int .u8 (kind : Int), .int .i64 wd, .int .i64 ht, .slice A n cap] 27)) w.heap.size 27 #[.int .u8 (kind : Int), .int .i64 wd, .int .i64 ht, .slice A n cap] := Blk.new w _ _
  have hb : Below w.heap.size w (w.alloc (.cells #[.int .u8 (kind : Int), .int .i64 wd, .int .i64 ht, .slice A n cap] 27)) := (Below.refl _ _).alloc (Nat.le_refl _) _
  obtain ⟨hln, hcell⟩ := comps_at (hc.below hb)
  have HLN := Lib.hid hln; clear hln hc
  go_enter Tryz.func109, Tryz.ntmps109
  go_upto_region 1 with fail
  have c3 : (w.alloc (.cells #[.int .u8 (kind : Int), .int .i64 wd, .int .i64 ht, .slice A n cap] 27)).cell? ⟨w.heap.size, 3, none⟩ = some (.slice A n cap) := by rw [hu.cell]; rfl
  clear hu
  generalize (w.alloc (.cells #[.int .u8 (kind : Int), .int .i64 wd, .int .i64 ht, .slice A n cap] 27)) = w1 at hb hcell c3 ⊢
  generalize w.heap.size = a at c3 ⊢
  have HC := Lib.hid hcell; clear hcell
  have HB := Lib.hid hb; clear hb
  go_wp2_with fail
  clear c3
  go_loopw [4, 5, 11] (fun h v i wr => ∃ k : Nat, k ≤ n ∧ i = .int .i64 k ∧ h = .int .i64 (mTo (l.map (·.h)) k : Nat) ∧ v = .int .i64 (mTo (l.map (·.v)) k : Nat) ∧ Below w1.heap.size w1 wr) (fun _ _ i _ => n - (intOf i).toNat)
  case atStart => exact ⟨0, by omega, rfl, rfl, rfl, Below.refl _ _⟩
  case round =>
    obtain ⟨k, hk, rfl, rfl, rfl, hbk⟩ := hrel
    by_cases hlt : k < n
    · obtain ⟨b, o, rfl, hcell⟩ := HC.out (by omega)
      have hcc := (hcell k hlt).below hbk
      clear hcell
      have l1 := comp_lt hb8 k
      have l4 := comp_lt2 hb8 k
      have l2 := mTo_lt (fun k => (comp_lt hb8 k).1) k
      have l3 := mTo_lt (fun k => (comp_lt hb8 k).2) k
      have n1 : mTo (l.map (·.h)) (k + 1) = Nat.max (mTo (l.map (·.h)) k) (hst4 l k) := rfl
      have n2 : mTo (l.map (·.v)) (k + 1) = Nat.max (mTo (l.map (·.v)) k) (vst4 l k) := rfl
      change mTo (l.map (·.h)) k < 256 at l2
      change mTo (l.map (·.v)) k < 256 at l3
      obtain ⟨d0, d1, d2, d3⟩ := hcc
      generalize mTo (l.map (·.h)) k = mh at l2 n1 ⊢
      generalize mTo (l.map (·.v)) k = mv at l3 n2 ⊢
      generalize hst4 l k = ch at d1 l1 n1
      generalize vst4 l k = cv at d2 l1 n2
      generalize fst4 l k = ca at d0 l4
      generalize qst4 l k = cq at d3 l4
      have HN := Lib.hid (And.intro n1 n2); clear n1 n2
      go_upto_region 5 with fail
      have hu9 := Blk.new wr 90 #[.int .u8 (ca : Int), .int .u8 (ch : Int), .int .u8 (cv : Int), .int .u8 (cq : Int)]
      have hb3 : Below w1.heap.size w1 (wr.alloc (.cells #[.int .u8 (ca : Int), .int .u8 (ch : Int), .int .u8 (cv : Int), .int .u8 (cq : Int)] 90)) := hbk.alloc (hbk.size) _
      generalize (wr.alloc (.cells #[.int .u8 (ca : Int), .int .u8 (ch : Int), .int .u8 (cv : Int), .int .u8 (cq : Int)] 90)) = w9 at hu9 hb3 ⊢
      generalize wr.heap.size = g at hu9 ⊢
      have hI : CI g ca ch cv cq w9 := ⟨by rw [hu9.cell]; rfl, by rw [hu9.cell]; rfl, by rw [hu9.cell]; rfl, by rw [hu9.cell]; rfl⟩
      clear hu9 d0 d1 d2 d3 hbk
      have y2 : IntKind.i64.wrap (ch : Int) = ch := IntWalk.i64_in _ (by omega)
      have y3 : IntKind.i64.wrap (cv : Int) = cv := IntWalk.i64_in _ (by omega)
      refine Lex3.wp_region_lex [] (CI g ca ch cv cq) (fun u n h => h) hI (by kernel_rfl) (by kernel_rfl) ?_
      have hb3' := below_drewN hb3 1
      clear hb3
      have hb3 : Below w1.heap.size w1 w9.drew := hb3'
      clear hb3' hI
      generalize w9.drew = wA at hb3 ⊢
      by_cases b1 : mh < ch
      all_goals by_cases b2 : mv < cv
      all_goals
        have b1' : (mh : Int) < ch ∨ (ch : Int) ≤ mh := by omega
        have b2' : (mv : Int) < cv ∨ (cv : Int) ≤ mv := by omega
        have m1 : max (mh : Int) (ch : Int) = ((Nat.max mh ch : Nat) : Int) := by rw [show Nat.max mh ch = max mh ch from rfl]; omega
        have m2 : max (mv : Int) (cv : Int) = ((Nat.max mv cv : Nat) : Int) := by rw [show Nat.max mv cv = max mv cv from rfl]; omega
        iterate 2 (refine Lex3.run_free (v := ?_) (by rfl) (by rfl) (fun u => ?_) ?_; rotate_left; (go_simp; try with_reducible rfl); simp only [Act.put, zA, zB, zC])
        refine Lex3.run_load (v := ?_) (by rfl) (by rfl) (fun u hu => ?_) ?_; rotate_left; (obtain ⟨hu0, hu1, hu2, hu3⟩ := hu; go_simp; try with_reducible rfl); simp only [Act.put, zA, zB, zC]
        iterate 4 (refine Lex3.run_free (v := ?_) (by rfl) (by rfl) (fun u => ?_) ?_; rotate_left; (go_simp; try with_reducible rfl); simp only [Act.put, zA, zB, zC])
        refine Lex3.run_load (v := ?_) (by rfl) (by rfl) (fun u hu => ?_) ?_; rotate_left; (obtain ⟨hu0, hu1, hu2, hu3⟩ := hu; go_simp; try with_reducible rfl); simp only [Act.put, zA, zB, zC]
        iterate 4 (refine Lex3.run_free (v := ?_) (by rfl) (by rfl) (fun u => ?_) ?_; rotate_left; (go_simp; try with_reducible rfl); simp only [Act.put, zA, zB, zC])
        refine Lex3.run_nil (fun n3 => ?_)
        have hb3' := below_drewN hb3 n3
        clear hb3
        generalize wA.drewN n3 = w14 at hb3' ⊢
        go_wp2_with fail
        go_roundw
        case rel => exact ⟨k + 1, by omega, by go_num, by rw [HN.out.1], by rw [HN.out.2], hb3'⟩
        case measure => simp [intOf]; omega
    · obtain rfl : k = n := by omega
      go_wp2_with fail
      go_ret2
      unfold mostM
      rw [HLN.out]
      exact ⟨rfl, below_then HB.out hbk⟩
end Go.Proofs.YtjfgfoeenajneaaGreatDoor.Sg
namespace Go.Proofs.YtjfgfoeenajneaaGreatDoor.Sg
open Go.RowKit

set_option maxRecDepth 100000 in
set_option maxHeartbeats 32000000 in
theorem geomCheck_any (kind : Nat) (wd ht : Int) (l : List CompM) (A : Option Addr) (n cap : Nat) (w : World) (hc : Rows 4 w A n (l.flatMap compC)) (hn : n ≤ 1152921504606846976) (hb8 : ∀ c ∈ l, c.id < 256 ∧ c.h < 256 ∧ c.v < 256 ∧ c.q < 256) (hcap : n ≤ cap) :
    Calls Tryz.prog 107 #[.agg #[.int .u8 (kind : Int), .int .i64 wd, .int .i64 ht, .slice A n cap]] w fun e w' => e = .returned (.int .i64 (geomM wd ht l : Nat)) ∧ Below w.heap.size w w' := by
  have hu : Blk (w.alloc (.cells #[.int .u8 (kind : Int), .int .i64 wd, .int .i64 ht, .slice A n cap] 27)) w.heap.size 27 #[.int .u8 (kind : Int), .int .i64 wd, .int .i64 ht, .slice A n cap] := Blk.new w _ _
  have hb : Below w.heap.size w (w.alloc (.cells #[.int .u8 (kind : Int), .int .i64 wd, .int .i64 ht, .slice A n cap] 27)) := (Below.refl _ _).alloc (Nat.le_refl _) _
  have hc1 := hc.below hb
  obtain ⟨hln, hcell⟩ := comps_at hc1
  have HLN := Lib.hid hln; clear hln hc
  have e1 : (w.alloc (.cells #[.int .u8 (kind : Int), .int .i64 wd, .int .i64 ht, .slice A n cap] 27)).cell? ⟨w.heap.size, 1, none⟩ = some (.int .i64 wd) := by rw [hu.cell]; rfl
  have e2 : (w.alloc (.cells #[.int .u8 (kind : Int), .int .i64 wd, .int .i64 ht, .slice A n cap] 27)).cell? ⟨w.heap.size, 2, none⟩ = some (.int .i64 ht) := by rw [hu.cell]; rfl
  have c3 : (w.alloc (.cells #[.int .u8 (kind : Int), .int .i64 wd, .int .i64 ht, .slice A n cap] 27)).cell? ⟨w.heap.size, 3, none⟩ = some (.slice A n cap) := by rw [hu.cell]; rfl
  have hs4 : (Tryz.prog.info? 27).map (·.size) = some (#[.int .u8 (kind : Int), .int .i64 wd, .int .i64 ht, .slice A n cap] : Array Value).size := size4
  have HS4 := Lib.hid hs4; clear hs4
  go_enter Tryz.func107, Tryz.ntmps107
  go_upto_region 1 with fail
  generalize (w.alloc (.cells #[.int .u8 (kind : Int), .int .i64 wd, .int .i64 ht, .slice A n cap] 27)) = w1 at hu hb hcell c3 e1 e2 hc1 ⊢
  generalize w.heap.size = a at hu c3 e1 e2 ⊢
  have HC := Lib.hid hcell; clear hcell
  have hgeom : ∀ x, geomM wd ht l = x → Ending.returned (.int .i64 (x : Nat)) = Ending.returned (.int .i64 (geomM wd ht l : Nat)) := fun x hx => by rw [hx]
  have HG := Lib.hid hgeom; clear hgeom
  by_cases q1 : wd < 1
  · go_wp2_with fail
    go_ret
    exact ⟨HG.out 140 (by unfold geomM; rw [if_pos (.inl q1)]), hb⟩
  by_cases q2 : 65535 < wd
  · go_wp2_with fail
    go_ret
    exact ⟨HG.out 140 (by unfold geomM; rw [if_pos (.inr (.inl q2))]), hb⟩
  by_cases q3 : ht < 1
  · go_wp2_with fail
    go_ret
    exact ⟨HG.out 140 (by unfold geomM; rw [if_pos (.inr (.inr (.inl q3)))]), hb⟩
  by_cases q4 : 65535 < ht
  · go_wp2_with fail
    go_ret
    exact ⟨HG.out 140 (by unfold geomM; rw [if_pos (.inr (.inr (.inr q4)))]), hb⟩
  have hg1 : geomM wd ht l = (if l.length < 1 ∨ 4 < l.length then 143 else if idsM l then 143 else if l.any factM then 141 else if l.any (ratioM (mostM (·.h) l) (mostM (·.v) l)) then 142 else 0) := by
    unfold geomM
    rw [if_neg (by omega)]
  rw [HLN.out] at hg1
  have HG1 := Lib.hid hg1; clear hg1
  by_cases q5 : n < 1
  · go_wp2_with fail
    go_ret
    exact ⟨HG.out 143 (by rw [HG1.out, if_pos (.inl q5)]), hb⟩
  by_cases q6 : 4 < n
  · go_wp2_with fail
    go_ret
    exact ⟨HG.out 143 (by rw [HG1.out, if_pos (.inr q6)]), hb⟩
  have hg2 := HG1.out
  rw [if_neg (by omega)] at hg2
  have HG2 := Lib.hid hg2; clear hg2 HG1
  have HU := Lib.hid hu
  have HB := Lib.hid hb
  have HC1 := Lib.hid hc1
  have HC3 := Lib.hid c3
  go_upto_region 6 with fail
  clear e1 e2 hu hb hc1 c3
  go_loopw [44] (fun i wr => ∃ k : Nat, k ≤ n ∧ i = .int .i64 k ∧ ((l.map (·.id)).take k).Nodup ∧ (l.take k).any (fun c => decide (3 < c.q)) = false ∧ Below w1.heap.size w1 wr) (fun i _ => n - (intOf i).toNat)
  case atStart => exact ⟨0, by omega, rfl, by simp, rfl, Below.refl _ _⟩
  case round =>
    obtain ⟨k, hk, rfl, hnd, hq, hbk⟩ := hrel
    have HND := Lib.hid (And.intro hnd hq); clear hnd hq
    by_cases hlt : k < n
    · have c3 := below_cell hbk HC3.out
      obtain ⟨b, o, rfl, hcell⟩ := HC.out (by omega)
      have hcc := (hcell k hlt).below hbk
      clear hcell
      have l1 := comp_lt hb8 k
      have l4 := comp_lt2 hb8 k
      obtain ⟨d0, d1, d2, d3⟩ := hcc
      have hqn := any_q (l := l) (k := k) (by rw [HLN.out]; exact hlt)
      rw [HND.out.2, Bool.false_or] at hqn
      have HQN := Lib.hid hqn; clear hqn
      generalize hca : fst4 l k = ca at d0 l4
      generalize hst4 l k = ch at d1 l1
      generalize vst4 l k = cv at d2 l1
      generalize qst4 l k = cq at d3 l4 HQN
      have HCA := Lib.hid hca; clear hca
      go_upto_region 8 with fail
      have hu9 := Blk.new wr 90 #[.int .u8 (ca : Int), .int .u8 (ch : Int), .int .u8 (cv : Int), .int .u8 (cq : Int)]
      have hb9 : Below w1.heap.size w1 (wr.alloc (.cells #[.int .u8 (ca : Int), .int .u8 (ch : Int), .int .u8 (cv : Int), .int .u8 (cq : Int)] 90)) := hbk.alloc (hbk.size) _
      generalize (wr.alloc (.cells #[.int .u8 (ca : Int), .int .u8 (ch : Int), .int .u8 (cv : Int), .int .u8 (cq : Int)] 90)) = w9 at hu9 hb9 ⊢
      generalize wr.heap.size = g at hu9 ⊢
      have f0 : w9.cell? ⟨g, 0, none⟩ = some (.int .u8 (ca : Int)) := by rw [hu9.cell]; rfl
      have f3 : w9.cell? ⟨g, 3, none⟩ = some (.int .u8 (cq : Int)) := by rw [hu9.cell]; rfl
      clear hu9 d0 d1 d2 d3 hbk c3
      have c3 := below_cell hb9 HC3.out
      have z1 : (k : Int) ≤ (cap : Int) := by omega
      go_upto_region 9 with fail
      clear c3
      go_loopw [54] (fun j wr2 => ∃ q : Nat, q ≤ k ∧ j = .int .i64 q ∧ ca ∉ (l.map (·.id)).take q ∧ Below w9.heap.size w9 wr2) (fun j _ => k - (intOf j).toNat)
      case atStart => exact ⟨0, by omega, rfl, by simp, Below.refl _ _⟩
      case round =>
        obtain ⟨q, hq, rfl, hmem, hbq⟩ := hrel
        have HMEM := Lib.hid hmem; clear hmem
        have g0 := below_cell hbq f0
        have g3 := below_cell hbq f3
        by_cases hqk : q < k
        · have hbw := below_then hb9 hbq
          obtain ⟨b2, o2, hbo, hcell⟩ := HC.out (by omega)
          injection hbo with hbo
          injection hbo with hb1 hb2 _
          subst hb1 hb2
          have hcc := (hcell q (by omega)).below hbw
          clear hcell
          have m4 := comp_lt2 hb8 q
          have m1 := comp_lt hb8 q
          obtain ⟨d0, d1, d2, d3⟩ := hcc
          generalize hcx : fst4 l q = cx at d0 m4
          generalize hst4 l q = cy at d1 m1
          generalize vst4 l q = cz at d2 m1
          generalize qst4 l q = cw at d3 m4
          have HCX := Lib.hid hcx; clear hcx
          have z1 : 0 ≤ (q : Int) := by omega
          have z2 : (q : Int) < (k : Int) := by omega
          have hgl : g < wr.heap.size := by
            have := World.block_lt_of_cell? wr _ g0
            exact this
          have hgne : ¬ wr.heap.size = g := by omega
          have hgn2 : ¬ g = wr.heap.size := by omega
          go_upto_region 11 with fail
          have hu2 := Blk.new wr 90 #[.int .u8 (cx : Int), .int .u8 (cy : Int), .int .u8 (cz : Int), .int .u8 (cw : Int)]
          have hbA : Below w9.heap.size w9 (wr.alloc (.cells #[.int .u8 (cx : Int), .int .u8 (cy : Int), .int .u8 (cz : Int), .int .u8 (cw : Int)] 90)) := hbq.alloc (hbq.size) _
          generalize (wr.alloc (.cells #[.int .u8 (cx : Int), .int .u8 (cy : Int), .int .u8 (cz : Int), .int .u8 (cw : Int)] 90)) = wB at hu2 hbA ⊢
          generalize wr.heap.size = gg at hu2 ⊢
          have k0 : wB.cell? ⟨gg, 0, none⟩ = some (.int .u8 (cx : Int)) := by rw [hu2.cell]; rfl
          have k1 := below_cell hbA f0
          clear hu2 d0 d1 d2 d3 hbq hbw g0 g3 hgl hgne hgn2
          by_cases hxy : cx = ca
          · have hres : geomM wd ht l = 143 := by
              have h9 := twice_not (v := l.map (·.id)) hqk (by rw [List.length_map, HLN.out]; exact hlt) (show (l.map (·.id)).getD q 0 = (l.map (·.id)).getD k 0 from HCX.out.trans (hxy.trans HCA.out.symm))
              have h8 : idsM l = true := by
                unfold idsM
                rw [decide_eq_true h9, Bool.true_or]
              rw [HG2.out, h8]
              rfl
            have HR := Lib.hid hres; clear hres
            subst hxy
            go_wp2_with fail
            go_ret
            exact ⟨HG.out 143 HR.out, below_then HB.out (below_then hb9 hbA)⟩
          · have hb1 : ((cx : Int) == (ca : Int)) = false := beq_false_of_ne (by omega)
            have hb2 : (cx == ca) = false := beq_false_of_ne hxy
            go_wp2_with fail
            go_roundw
            case rel =>
              refine ⟨q + 1, by omega, by go_num, ?_, hbA⟩
              rw [mem_take_next (by rw [List.length_map, HLN.out]; omega)]
              rintro (h | h)
              · exact HMEM.out h
              · exact hxy (HCX.out.symm.trans h.symm)
            case measure => simp [intOf]; omega
        · obtain rfl : q = k := by omega
          have hnd9 := (take_nodup (v := l.map (·.id)) (k := q) (by rw [List.length_map, HLN.out]; exact hlt)).2 ⟨HND.out.1, by rw [show (l.map (·.id)).getD q 0 = ca from HCA.out]; exact HMEM.out⟩
          have HN9 := Lib.hid hnd9; clear hnd9
          by_cases hq3 : 3 < cq
          · have hres : geomM wd ht l = 143 := by
              have h9 := HQN.out
              rw [decide_eq_true hq3] at h9
              have h8 : idsM l = true := by
                unfold idsM
                rw [any_of_take h9, Bool.or_true]
              rw [HG2.out, h8]
              rfl
            have HR := Lib.hid hres; clear hres
            go_wp2_with fail
            go_ret
            exact ⟨HG.out 143 HR.out, below_then HB.out (below_then hb9 hbq)⟩
          · have hcq : (cq : Int) ≤ 3 := by omega
            go_wp2_with fail
            go_roundw
            case rel => exact ⟨q + 1, by omega, by go_num, HN9.out, by rw [HQN.out]; exact decide_eq_false hq3, below_then hb9 hbq⟩
            case measure => simp [intOf]; omega
    · obtain rfl : k = n := by omega
      have h4 := HND.out
      rw [List.take_of_length_le (by rw [List.length_map, HLN.out]; exact Nat.le_refl _), List.take_of_length_le (by rw [HLN.out]; exact Nat.le_refl _)] at h4
      have hids : idsM l = false := by
        unfold idsM
        rw [h4.2, decide_eq_false (fun h => h h4.1)]
        rfl
      have hg3 := HG2.out
      rw [hids, if_neg (by simp)] at hg3
      have HG3 := Lib.hid hg3; clear hg3 hids h4 HND HG2
      have hu2 := HU.out.kept hbk
      have hc2 := HC1.out.below hbk
      go_wp2_with (refine wpList_load_row rfl _ _ rfl a rfl _ _ _ _ hu2 Tryz.underlying27 rfl HS4.out ?_)
      refine (most_any kind wd ht l A k cap wr hc2 hn hb8).mono ?_
      rintro e w2 ⟨rfl, hb2⟩
      have hb' := below_then hbk hb2
      have c3 := below_cell hb' HC3.out
      clear hu2 hc2 hbk hb2
      obtain ⟨H, hH⟩ : ∃ H, mostM (·.h) l = H := ⟨_, rfl⟩
      obtain ⟨V, hV⟩ : ∃ V, mostM (·.v) l = V := ⟨_, rfl⟩
      have hHb : H < 256 := by rw [← hH]; exact mTo_lt (fun k => (comp_lt hb8 k).1) _
      have hVb : V < 256 := by rw [← hV]; exact mTo_lt (fun k => (comp_lt hb8 k).2) _
      have hg3 := HG3.out
      rw [hH, hV] at hg3 ⊢
      clear HG3 hH hV
      have HG3 := Lib.hid hg3; clear hg3
      go_wp2_with fail
      go_loopw [76] (fun i wr => ∃ j : Nat, j ≤ k ∧ i = .int .i64 j ∧ (l.take j).any factM = false ∧ Below w1.heap.size w1 wr) (fun i _ => k - (intOf i).toNat)
      case atStart => exact ⟨0, by omega, rfl, rfl, hb'⟩
      clear c3 hb'
      case round =>
        obtain ⟨j, hj, rfl, hfa, hbj⟩ := hrel
        by_cases hlt2 : j < k
        · have n1 := any_fact (l := l) (k := j) (by rw [HLN.out]; exact hlt2)
          rw [hfa, Bool.false_or] at n1
          obtain ⟨b, o, rfl, hcell⟩ := HC.out (by omega)
          have hcc := (hcell j hlt2).below hbj
          clear hcell
          have l1 := comp_lt hb8 j
          have l4 := comp_lt2 hb8 j
          obtain ⟨d0, d1, d2, d3⟩ := hcc
          generalize fst4 l j = ca at d0 l4
          generalize hst4 l j = ch at d1 l1 n1
          generalize vst4 l j = cv at d2 l1 n1
          generalize qst4 l j = cq at d3 l4
          have HN := Lib.hid n1; clear n1 hfa
          have z1 : (j : Int) < (k : Int) := by omega
          have z2 : 0 ≤ (j : Int) := by omega
          go_upto_region 21 with fail
          have hu9 := Blk.new wr 90 #[.int .u8 (ca : Int), .int .u8 (ch : Int), .int .u8 (cv : Int), .int .u8 (cq : Int)]
          have hb9 : Below w1.heap.size w1 (wr.alloc (.cells #[.int .u8 (ca : Int), .int .u8 (ch : Int), .int .u8 (cv : Int), .int .u8 (cq : Int)] 90)) := hbj.alloc (hbj.size) _
          generalize (wr.alloc (.cells #[.int .u8 (ca : Int), .int .u8 (ch : Int), .int .u8 (cv : Int), .int .u8 (cq : Int)] 90)) = w9 at hu9 hb9 ⊢
          generalize wr.heap.size = g at hu9 ⊢
          have f1 : w9.cell? ⟨g, 1, none⟩ = some (.int .u8 (ch : Int)) := by rw [hu9.cell]; rfl
          have f2 : w9.cell? ⟨g, 2, none⟩ = some (.int .u8 (cv : Int)) := by rw [hu9.cell]; rfl
          clear hu9 d0 d1 d2 d3 hbj
          by_cases fx : ch < 1 ∨ 4 < ch ∨ cv < 1 ∨ 4 < cv
          · have hres : geomM wd ht l = 141 := by
              have := HN.out
              rw [decide_eq_true fx] at this
              rw [HG3.out, any_of_take this, if_pos rfl]
            have HR := Lib.hid hres; clear hres
            by_cases g1 : ch < 1
            · go_wp2_with fail
              go_ret
              exact ⟨HG.out 141 HR.out, below_then HB.out hb9⟩
            by_cases g2 : 4 < ch
            · go_wp2_with fail
              go_ret
              exact ⟨HG.out 141 HR.out, below_then HB.out hb9⟩
            by_cases g3 : cv < 1
            · go_wp2_with fail
              go_ret
              exact ⟨HG.out 141 HR.out, below_then HB.out hb9⟩
            have g4 : 4 < cv := by omega
            go_wp2_with fail
            go_ret
            exact ⟨HG.out 141 HR.out, below_then HB.out hb9⟩
          · have x1 : 1 ≤ ch := by omega
            have x2 : ch ≤ 4 := by omega
            have y1 : 1 ≤ cv := by omega
            have y2 : cv ≤ 4 := by omega
            have hN1 := HN.out
            rw [decide_eq_false fx] at hN1
            clear fx HN
            have HN := Lib.hid hN1; clear hN1
            go_wp2_with fail
            go_roundw
            case rel => exact ⟨j + 1, by omega, by go_num, HN.out, hb9⟩
            case measure => simp [intOf]; omega
        · obtain rfl : j = k := by omega
          have hal := hfa
          rw [List.take_of_length_le (by rw [HLN.out]; exact Nat.le_refl _)] at hal
          have hg4 := HG3.out
          rw [hal, if_neg (by simp)] at hg4
          have HG4 := Lib.hid hg4; clear hg4 HG3 hfa
          have HFA := Lib.hid hal; clear hal
          have c3 := below_cell hbj HC3.out
          go_wp2_with fail
          clear c3
          go_loopw [102] (fun i wr => ∃ i' : Nat, i' ≤ j ∧ i = .int .i64 i' ∧ (l.take i').any (ratioM H V) = false ∧ Below w1.heap.size w1 wr) (fun i _ => j - (intOf i).toNat)
          case atStart => exact ⟨0, by omega, rfl, rfl, hbj⟩
          clear hbj
          case round =>
            obtain ⟨i, hi, rfl, hra, hbj⟩ := hrel
            by_cases hlt3 : i < j
            · have n2 := any_ratio H V (l := l) (k := i) (by rw [HLN.out]; exact hlt3)
              rw [hra, Bool.false_or] at n2
              have hfo := fact_ok HFA.out (k := i) (by rw [HLN.out]; exact hlt3)
              obtain ⟨b, o, rfl, hcell⟩ := HC.out (by omega)
              have hcc := (hcell i hlt3).below hbj
              clear hcell
              have l1 := comp_lt hb8 i
              have l4 := comp_lt2 hb8 i
              obtain ⟨d0, d1, d2, d3⟩ := hcc
              generalize fst4 l i = ca at d0 l4
              generalize hst4 l i = ch at d1 l1 n2 hfo
              generalize vst4 l i = cv at d2 l1 n2 hfo
              generalize qst4 l i = cq at d3 l4
              have HN := Lib.hid n2; clear n2 hra
              have z1 : (i : Int) < (j : Int) := by omega
              have z2 : 0 ≤ (i : Int) := by omega
              go_upto_region 27 with fail
              have hu9 := Blk.new wr 90 #[.int .u8 (ca : Int), .int .u8 (ch : Int), .int .u8 (cv : Int), .int .u8 (cq : Int)]
              have hb9 : Below w1.heap.size w1 (wr.alloc (.cells #[.int .u8 (ca : Int), .int .u8 (ch : Int), .int .u8 (cv : Int), .int .u8 (cq : Int)] 90)) := hbj.alloc (hbj.size) _
              generalize (wr.alloc (.cells #[.int .u8 (ca : Int), .int .u8 (ch : Int), .int .u8 (cv : Int), .int .u8 (cq : Int)] 90)) = w9 at hu9 hb9 ⊢
              generalize wr.heap.size = g at hu9 ⊢
              have f1 : w9.cell? ⟨g, 1, none⟩ = some (.int .u8 (ch : Int)) := by rw [hu9.cell]; rfl
              have f2 : w9.cell? ⟨g, 2, none⟩ = some (.int .u8 (cv : Int)) := by rw [hu9.cell]; rfl
              clear hu9 d0 d1 d2 d3 hbj
              obtain ⟨x1, x2, y1, y2⟩ := hfo
              obtain ⟨p, hp⟩ : ∃ p, H % ch = p := ⟨_, rfl⟩
              obtain ⟨q, hq⟩ : ∃ q, V % cv = q := ⟨_, rfl⟩
              have hp1 : (H : Int) % (ch : Int) = (p : Int) := by rw [← hp]; rfl
              have hq1 : (V : Int) % (cv : Int) = (q : Int) := by rw [← hq]; rfl
              have hp2 : (H : Int).tmod (ch : Int) = (p : Int) := by rw [← hp]; rfl
              have hq2 : (V : Int).tmod (cv : Int) = (q : Int) := by rw [← hq]; rfl
              have hp3 : p < 4 := by have := Nat.mod_lt H x1; omega
              have hq3 : q < 4 := by have := Nat.mod_lt V y1; omega
              have nx : ¬ (ch : Int) = 0 := by omega
              have ny : ¬ (cv : Int) = 0 := by omega
              have nx' : ¬ ch = 0 := by omega
              have ny' : ¬ cv = 0 := by omega
              have yx : IntKind.i64.wrap (ch : Int) = ch := IntWalk.i64_in _ (by omega)
              have yy : IntKind.i64.wrap (cv : Int) = cv := IntWalk.i64_in _ (by omega)
              have yp : IntKind.i64.wrap (p : Int) = (p : Int) := IntWalk.i64_in _ (by omega)
              have yq : IntKind.i64.wrap (q : Int) = (q : Int) := IntWalk.i64_in _ (by omega)
              have hn9 := HN.out
              rw [hp, hq] at hn9
              clear hp hq HN
              have HN := Lib.hid hn9; clear hn9
              by_cases p0 : p = 0
              · by_cases q0 : q = 0
                · subst p0 q0
                  go_wp2_with fail
                  go_roundw
                  case rel => exact ⟨i + 1, by omega, by go_num, by rw [HN.out]; rfl, hb9⟩
                  case measure => simp [intOf]; omega
                · subst p0
                  have q1 : ((q : Int) != 0) = true := by simp; omega
                  have hres : geomM wd ht l = 142 := by
                    have := HN.out
                    rw [decide_eq_true (.inr q0)] at this
                    rw [HG4.out, any_of_take this, if_pos rfl]
                  have HR := Lib.hid hres; clear hres
                  go_wp2_with fail
                  go_ret
                  exact ⟨HG.out 142 HR.out, below_then HB.out hb9⟩
              · have p1 : ((p : Int) != 0) = true := by simp; omega
                have hres : geomM wd ht l = 142 := by
                  have := HN.out
                  rw [decide_eq_true (.inl p0)] at this
                  rw [HG4.out, any_of_take this, if_pos rfl]
                have HR := Lib.hid hres; clear hres
                go_wp2_with fail
                go_ret
                exact ⟨HG.out 142 HR.out, below_then HB.out hb9⟩
            · obtain rfl : i = j := by omega
              have hal := hra
              rw [List.take_of_length_le (by rw [HLN.out]; exact Nat.le_refl _)] at hal
              have hres : geomM wd ht l = 0 := by rw [HG4.out, hal]; rfl
              have HR := Lib.hid hres; clear hres hal hra
              go_wp2_with fail
              go_ret
              exact ⟨HG.out 0 HR.out, below_then HB.out hbj⟩
end Go.Proofs.YtjfgfoeenajneaaGreatDoor.Sg
namespace Go.Proofs.YtjfgfoeenajneaaGreatDoor.Sg
open Go.RowKit

set_option maxRecDepth 100000 in
set_option maxHeartbeats 8000000 in
theorem framed_any (kind : Nat) (wd ht : Int) (l : List CompM) (A : Option Addr) (n cap : Nat) (w : World) (hc : Rows 4 w A n (l.flatMap compC)) (hn : n ≤ 1152921504606846976) (hb8 : ∀ c ∈ l, c.id < 256 ∧ c.h < 256 ∧ c.v < 256 ∧ c.q < 256) (hcap : n ≤ cap) :
    Calls Tryz.prog 95 #[.agg #[.int .u8 (kind : Int), .int .i64 wd, .int .i64 ht, .slice A n cap]] w fun e w' => e = .returned (.int .i64 (framedM wd ht l : Nat)) ∧ Below w.heap.size w w' := by
  have hu : Blk (w.alloc (.cells #[.int .u8 (kind : Int), .int .i64 wd, .int .i64 ht, .slice A n cap] 27)) w.heap.size 27 #[.int .u8 (kind : Int), .int .i64 wd, .int .i64 ht, .slice A n cap] := Blk.new w _ _
  have hb : Below w.heap.size w (w.alloc (.cells #[.int .u8 (kind : Int), .int .i64 wd, .int .i64 ht, .slice A n cap] 27)) := (Below.refl _ _).alloc (Nat.le_refl _) _
  have e2 : (w.alloc (.cells #[.int .u8 (kind : Int), .int .i64 wd, .int .i64 ht, .slice A n cap] 27)).cell? ⟨w.heap.size, 2, none⟩ = some (.int .i64 ht) := by rw [hu.cell]; rfl
  have hc1 := hc.below hb
  have hs4 : (Tryz.prog.info? 27).map (·.size) = some (#[.int .u8 (kind : Int), .int .i64 wd, .int .i64 ht, .slice A n cap] : Array Value).size := size4
  have HS4 := Lib.hid hs4; clear hs4
  have hfr : ∀ x, framedM wd ht l = x → Ending.returned (.int .i64 (x : Nat)) = Ending.returned (.int .i64 (framedM wd ht l : Nat)) := fun x hx => by rw [hx]
  have HF := Lib.hid hfr; clear hfr
  go_enter Tryz.func95, Tryz.ntmps95
  go_upto_region 1 with fail
  generalize (w.alloc (.cells #[.int .u8 (kind : Int), .int .i64 wd, .int .i64 ht, .slice A n cap] 27)) = w1 at hu hb e2 hc1 ⊢
  generalize w.heap.size = a at hu e2 ⊢
  by_cases h0 : ht = 0
  · have hr : framedM wd ht l = 159 := by unfold framedM; rw [if_pos h0]
    have HR := Lib.hid hr
    subst h0
    clear hr
    go_wp2_with fail
    go_ret
    exact ⟨HF.out 159 HR.out, hb⟩
  have hr : framedM wd ht l = (if geomM wd ht l = 0 then 0 else if geomM wd ht l = 142 then 142 else 154) := by unfold framedM; rw [if_neg h0]
  have HR := Lib.hid hr; clear hr
  have h0b : (ht == 0) = false := beq_false_of_ne h0
  go_wp2_with (refine wpList_load_row rfl _ _ rfl a rfl _ _ _ _ hu Tryz.underlying27 rfl HS4.out ?_)
  refine (geomCheck_any kind wd ht l A n cap w1 hc1 hn hb8 hcap).mono ?_
  rintro e w2 ⟨rfl, hb2⟩
  have hb' := below_then hb hb2
  have hr := HR.out
  generalize geomM wd ht l = g at hr ⊢
  by_cases g0 : g = 0
  · subst g0
    have HR2 := Lib.hid hr; clear hr
    rw [show ((0 : Nat) : Int) = 0 from rfl]
    go_wp2_with fail
    go_ret
    exact ⟨HF.out 0 (by rw [HR2.out]; rfl), hb'⟩
  have g0b : ((g : Int) != 0) = true := by simpa using g0
  by_cases g1 : g = 142
  · subst g1
    have HR2 := Lib.hid hr; clear hr
    rw [show ((142 : Nat) : Int) = 142 from rfl]
    go_wp2_with fail
    go_ret
    exact ⟨HF.out 142 (by rw [HR2.out]; rfl), hb'⟩
  have g1b : ((g : Int) != 142) = true := by simp; omega
  rw [if_neg g0, if_neg g1] at hr
  have HR2 := Lib.hid hr; clear hr
  go_wp2_with fail
  go_ret
  exact ⟨HF.out 154 HR2.out, hb'⟩
end Go.Proofs.YtjfgfoeenajneaaGreatDoor.Sg
