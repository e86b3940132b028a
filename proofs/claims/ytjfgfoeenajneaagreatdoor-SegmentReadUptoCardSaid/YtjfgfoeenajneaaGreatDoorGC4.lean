/- The program reads a scan's header. Appending a slice that came in to a row of one's own; bytes as a new list. What is held against its like is found the same. -/
import Derived.Test.YtjfgfoeenajneaaGreatDoorGC3
namespace Go.Proofs.YtjfgfoeenajneaaGreatDoor.Sg
open Go.RowKit
open Go.Proofs.YtjfgfoeenajneaaGreatDoor.Lex (F)

def rsM (d : List UInt8) : Nat :=
  if d = [] ∨ d.length ≠ 4 + 2 * lead d then 152 else if lead d < 1 ∨ 4 < lead d ∨ d.drop (d.length - 3) ≠ [0, 63, 0] then 155
  else if (partsM ((d.drop 1).take (2 * lead d))).any (fun p => decide (3 < p.2.dc ∨ 3 < p.2.ac)) then 155 else 0
def psOf (d : List UInt8) : List (Nat × PartM) := partsM ((d.drop 1).take (2 * lead d))
def SIn (base s : Nat) (m : SegM) (w : World) (l : List (Nat × PartM)) (u : World) : Prop :=
  ∃ vp vi, Blk u s 31 (segC m nilS nilS nilS vp vi) ∧ u.ownsRow base 5 1 vi l.length (u8s (l.map (·.1))) ∧ u.ownsRow base 92 3 vp l.length ((l.map (·.2)).flatMap partC) ∧ But2 base s s w u
/-- what is read of a scan's header -/
def RSP (base s : Nat) (m : SegM) (d : List UInt8) (w : World) (e : Ending) (w' : World) : Prop :=
  e = .returned (.int .i64 (rsM d : Nat)) ∧ But2 base s s w w' ∧ (rsM d = 0 → SIn base s m w (psOf d) w')
theorem partsM_length : ∀ (n : Nat) (l : List UInt8), l.length = 2 * n → (partsM l).length = n
  | 0, l, h => by obtain rfl : l = [] := List.eq_nil_of_length_eq_zero (by omega); rfl
  | n + 1, l, h => by
    match l, h with
    | [], h => simp at h
    | [_], h => (simp at h; try omega)
    | a :: b :: l, h => simp only [partsM, List.length_cons]; rw [partsM_length n l (by simp at h; omega)]
theorem partsM_at : ∀ (k : Nat) (l : List UInt8), 2 * k + 2 ≤ l.length → (partsM l)[k]? = some (nb l (2 * k), ⟨0, nb l (2 * k + 1) / 16, nb l (2 * k + 1) % 16⟩)
  | k, l, h => by
    match l, h with
    | [], h => simp at h
    | [_], h => (simp at h; try omega)
    | a :: b :: l, h =>
      cases k with
      | zero => rfl
      | succ k =>
        simp only [partsM, List.getElem?_cons_succ]
        rw [partsM_at k l (by simp at h; omega)]
        rfl
theorem size3P : (Tryz.prog.info? 92).map (·.size) = some 3 := by kernel_rfl
theorem infoP3 : (Tryz.prog.info? 92).map (fun i => (i.zero, i.size, i.bytes)) = some (some (.agg #[.int .i64 0, .int .u8 0, .int .u8 0]), 3, 16) := by kernel_rfl
theorem own_apart {w : World} {base b2 n n2 z z2 g : Nat} {e e2 : TypeId} {v v2 : Value} {xs xs2 : List Value} (h : w.ownsRow base e z v n xs) (h2 : w.ownsRow b2 e2 z2 v2 n2 xs2) (he : e ≠ e2) (k : v.ownBlock = some g) (k2 : v2.ownBlock = some g) : False := by
  rcases h.2 with ⟨rfl, _⟩ | ⟨g1, c1, cur1, rfl, _, h1, _⟩
  · cases k
  · rcases h2.2 with ⟨rfl, _⟩ | ⟨g2, c2, cur2, rfl, _, h3, _⟩
    · cases k2
    · injection k with k
      injection k2 with k2
      subst k
      have k2 : g2 = g1 := k2
      rw [k2, h1] at h3
      injection h3 with h3
      injection h3 with _ h4 _
      exact he h4
theorem u8s_append (a b : List Nat) : u8s (a ++ b) = u8s a ++ u8s b := by unfold u8s; rw [List.map_append]
theorem Bs_eq3 (l : List UInt8) : (Bs l = ByteArray.mk #[0, 63, 0]) ↔ l = [0, 63, 0] :=
  ⟨fun h => Bs_inj (l := l) (m := [0, 63, 0]) h, fun h => by rw [h]; rfl⟩
set_option maxRecDepth 100000 in
set_option maxHeartbeats 32000000 in
theorem readScan_any (base s : Nat) (m : SegM) (d : List UInt8) (w : World) (hS : Blk w s 31 (segC m nilS nilS nilS nilS nilS)) (hs : s < base) (hb : base ≤ w.heap.size) (hl : d.length ≤ 16777216) :
    Calls Tryz.prog 69 #[.pointer (some ⟨s, 0, none⟩), .string (Bs d)] w (RSP base s m d w) := by
  by_cases hd0 : d = []
  · have hres : rsM d = 152 := by unfold rsM; rw [if_pos (.inl hd0)]
    have HR := Lib.hid hres; clear hres
    subst hd0
    rw [empty_Bs2]
    go_enter Tryz.func69, Tryz.ntmps69
    go_wp2_with fail
    go_ret
    unfold RSP
    rw [HR.out]
    exact ⟨rfl, But2.refl _ _ _ _, fun h => by cases h⟩
  have hfull := Bs_full hd0
  have hL : (Bs d).size = d.length := Bs_size d
  have hbyte : ∀ k, ∀ h : k < (Bs d).size, ((Bs d)[k]).toNat = nb d k := fun k h => by rw [Bs_get]; rfl
  have hpos : 0 < d.length := by cases d with | nil => exact absurd rfl hd0 | cons a b => simp
  obtain ⟨n, hn⟩ : ∃ n, d.length = n := ⟨_, rfl⟩
  rw [hn] at hL hl hpos
  have hcut : (Bs d).extract (n - 3) n = Bs (d.drop (n - 3)) := by rw [Bs_cut, List.take_of_length_le (by rw [List.length_drop]; omega)]
  have HNN := Lib.hid hn; clear hn
  generalize Bs d = LB at hL hbyte hcut hfull ⊢
  have HBY := Lib.hid hbyte; clear hbyte
  have HCUT := Lib.hid hcut; clear hcut
  have hb0 : ∀ h : 0 < LB.size, (LB[0]).toNat = nb d 0 := HBY.out 0
  have hx0 := nb_lt d 0
  have hlead : lead d = nb d 0 := rfl
  generalize nb d 0 = c at hb0 hx0 hlead
  have HCC := Lib.hid hlead; clear hlead
  have h0i : (0 : Int) < n := by omega
  have hw1 : IntKind.i64.wrap (2 * (c : Int)) = 2 * (c : Int) := IntWalk.i64_in _ (by omega)
  have hw2 : IntKind.i64.wrap (4 + 2 * (c : Int)) = 4 + 2 * (c : Int) := IntWalk.i64_in _ (by omega)
  have hwc : IntKind.i64.wrap (c : Int) = (c : Int) := IntWalk.i64_in _ (by omega)
  by_cases hn6 : n = 4 + 2 * c
  case neg =>
    have hres : rsM d = 152 := by unfold rsM; rw [HNN.out, HCC.out, if_pos (.inr hn6)]
    have HR := Lib.hid hres; clear hres
    have hneb : ((n : Int) != 4 + 2 * (c : Int)) = true := by simp; omega
    have hnec : ¬ (n : Int) = 4 + 2 * (c : Int) := by omega
    clear hd0
    go_enter Tryz.func69, Tryz.ntmps69
    go_wp2_with fail
    go_ret
    unfold RSP
    rw [HR.out]
    exact ⟨rfl, But2.refl _ _ _ _, fun h => by cases h⟩
  have hneb : ((n : Int) != 4 + 2 * (c : Int)) = false := by simp; omega
  have HN6 := Lib.hid hn6; clear hn6
  have hrs : rsM d = if c < 1 ∨ 4 < c ∨ d.drop (n - 3) ≠ [0, 63, 0] then 155 else if (psOf d).any (fun p => decide (3 < p.2.dc ∨ 3 < p.2.ac)) then 155 else 0 := by
    have := HN6.out
    unfold rsM psOf
    rw [HNN.out, HCC.out, if_neg (by rintro (h | h); exact hd0 h; exact h HN6.out)]
  have HRS := Lib.hid hrs; clear hrs hd0
  by_cases hc1 : c < 1
  · have hres : rsM d = 155 := by rw [HRS.out, if_pos (.inl hc1)]
    have HR := Lib.hid hres; clear hres
    have hc1b : (c : Int) < 1 := by omega
    go_enter Tryz.func69, Tryz.ntmps69
    go_wp2_with fail
    go_ret
    unfold RSP
    rw [HR.out]
    exact ⟨rfl, But2.refl _ _ _ _, fun h => by cases h⟩
  by_cases hc4 : 4 < c
  · have hres : rsM d = 155 := by rw [HRS.out, if_pos (.inr (.inl hc4))]
    have HR := Lib.hid hres; clear hres
    have hc1b : ¬ (c : Int) < 1 := by omega
    have hc4b : (4 : Int) < (c : Int) := by omega
    go_enter Tryz.func69, Tryz.ntmps69
    go_wp2_with fail
    go_ret
    unfold RSP
    rw [HR.out]
    exact ⟨rfl, But2.refl _ _ _ _, fun h => by cases h⟩
  have hc1b : ¬ (c : Int) < 1 := by omega
  have hc4b : ¬ (4 : Int) < (c : Int) := by omega
  have hw3 : IntKind.i64.wrap ((n : Int) - 3) = (n : Int) - 3 := IntWalk.i64_in _ (by omega)
  have h3n : 0 ≤ (n : Int) - 3 := by have := HN6.out; omega
  have h3m : (n : Int) - 3 ≤ n := by omega
  have h3t : ((n : Int) - 3).toNat = n - 3 := by omega
  have hext : (LB.extract (n - 3) n).toList = d.drop (n - 3) := by rw [HCUT.out, ByteArray.toList_eq]; show (d.drop (n - 3)).toArray.toList = _; simp
  by_cases h9 : d.drop (n - 3) = [0, 63, 0]
  case neg =>
    have hres : rsM d = 155 := by rw [HRS.out, if_pos (.inr (.inr h9))]
    have HR := Lib.hid hres; clear hres
    have h9b : ((LB.extract (n - 3) n).toList == [0, 63, 0]) = false := by rw [hext]; simpa using h9
    have h9c : ¬ (LB.extract (n - 3) n).toList = [0, 63, 0] := by rw [hext]; exact h9
    clear hext h9
    go_enter Tryz.func69, Tryz.ntmps69
    go_wp2_with fail
    go_ret
    unfold RSP
    rw [HR.out]
    exact ⟨rfl, But2.refl _ _ _ _, fun h => by cases h⟩
  have h9b : ((LB.extract (n - 3) n).toList == [0, 63, 0]) = true := by rw [hext, h9]; rfl
  have hrs : rsM d = if (psOf d).any (fun p => decide (3 < p.2.dc ∨ 3 < p.2.ac)) then 155 else 0 := by rw [HRS.out, if_neg (by rintro (h | h | h); omega; omega; exact h h9)]
  clear HRS
  have HRS := Lib.hid hrs; clear hrs hext h9
  have hpl : (psOf d).length = c := by
    unfold psOf
    rw [HCC.out]
    exact partsM_length c _ (by rw [List.length_take, List.length_drop, HNN.out]; have := HN6.out; omega)
  have hpa : ∀ k, k < c → (psOf d)[k]? = some (nb d (1 + 2 * k), ⟨0, nb d (2 + 2 * k) / 16, nb d (2 + 2 * k) % 16⟩) := fun k hk => by
    unfold psOf
    rw [HCC.out, partsM_at k _ (by rw [List.length_take, List.length_drop, HNN.out]; have := HN6.out; omega)]
    have e9 : ∀ j, j < 2 * c → nb ((d.drop 1).take (2 * c)) j = nb d (1 + j) := fun j hj => by
      unfold nb
      rw [List.getD_eq_getElem?_getD, List.getElem?_take, if_pos hj, List.getElem?_drop, List.getD_eq_getElem?_getD]
    rw [e9 _ (by omega), e9 _ (by omega), show 1 + (2 * k + 1) = 2 + 2 * k by omega]
  have HPL := Lib.hid (And.intro hpl hpa); clear hpl hpa
  generalize hps : psOf d = ps at *
  have HPSD := Lib.hid hps; clear hps
  go_enter Tryz.func69, Tryz.ntmps69
  go_upto_region 6 with fail
  clear hb0 hx0 h0i hw1 hw2 hwc hneb h9b hfull hc1b hc4b
  go_loopw [5] (fun i wr => ∃ k : Nat, k ≤ c ∧ i = .int .i64 ((1 + 2 * k : Nat) : Int) ∧ SIn base s m w (ps.take k) wr ∧ (ps.take k).any (fun p => decide (3 < p.2.dc ∨ 3 < p.2.ac)) = false) (fun i _ => n - (intOf i).toNat)
  case atStart => exact ⟨0, by omega, rfl, ⟨nilS, nilS, hS, World.ownsRow_nil _ _ _ _, World.ownsRow_nil _ _ _ _, But2.refl _ _ _ _⟩, rfl⟩
  clear hS
  case round =>
    obtain ⟨k, hk, rfl, hin, hany⟩ := hrel
    obtain ⟨vp, vi, hS, howi, howp, hbut⟩ := hin
    obtain ⟨p, hp⟩ : ∃ p, 1 + 2 * k = p := ⟨_, rfl⟩
    rw [hp]
    have hz : base ≤ wr.heap.size := Nat.le_trans hb hbut.size
    by_cases hlt : k < c
    · have hpn : p + 1 < n := by have := HN6.out; omega
      have hca := HPL.out.2 k hlt
      rw [show 2 + 2 * k = p + 1 by omega, hp] at hca
      have hby0 : ∀ h : p < LB.size, (LB[p]).toNat = nb d p := HBY.out p
      have hby1 : ∀ h : p + 1 < LB.size, (LB[p + 1]).toNat = nb d (p + 1) := HBY.out (p + 1)
      have hz0 := nb_lt d p
      have hz1 := nb_lt d (p + 1)
      generalize nb d p = X0 at *
      generalize nb d (p + 1) = X1 at *
      obtain ⟨h, hh⟩ : ∃ h, X1 / 16 = h := ⟨_, rfl⟩
      obtain ⟨u, hu⟩ : ∃ u, X1 % 16 = u := ⟨_, rfl⟩
      rw [hh, hu] at hca
      have g1 : (X1 : Int) / 16 = (h : Int) := by omega
      have gand : bits .and .u8 (X1 : Int) 15 = (u : Int) := by
        have h9 := u8_and_nat X1 15 (by omega) (by omega)
        rw [show X1 &&& 15 = X1 % 16 from Nat.and_two_pow_sub_one_eq_mod X1 4, hu] at h9
        simpa using h9
      have htn : ps.take (k + 1) = ps.take k ++ [(X0, ⟨0, h, u⟩)] := take_next hca
      have hlk : (ps.take k).length = k := by rw [List.length_take, HPL.out.1]; omega
      have hany2 : (ps.take (k + 1)).any (fun p => decide (3 < p.2.dc ∨ 3 < p.2.ac)) = decide (3 < h ∨ 3 < u) := by rw [htn, List.any_append, hany]; simp
      rw [hlk] at howi howp
      have HK := Lib.hid (And.intro hk (And.intro hp (And.intro hlt (And.intro htn (And.intro hany2 hany))))); clear hk hp hlt htn hany2 hany hca
      have hu15 : u ≤ 15 := by omega
      have hh15 : h ≤ 15 := by omega
      clear hh hu
      generalize ps.take k = tk at *
      have hpi : (p : Int) < n := by omega
      have hp1i : (p : Int) + 1 < n := by omega
      have hp3i : (p : Int) < (n : Int) - 3 := by have := HN6.out; have := HK.out; omega
      have hp0 : 0 ≤ (p : Int) := by omega
      have hp1z : 0 ≤ (p : Int) + 1 := by omega
      have hw1p : IntKind.i64.wrap ((p : Int) + 1) = (p : Int) + 1 := IntWalk.i64_in _ (by omega)
      have ht1 : ((p : Int) + 1).toNat = p + 1 := by omega
      go_upto_region 8 with fail
      refine Lex3.wp_region_lex [] (fun u => True) (fun u n h => h) trivial (by kernel_rfl) (by kernel_rfl) ?_
      try simp only [Act.put, zA, zB, zC]
      iterate 11 (refine Lex3.run_free (v := ?_) (by rfl) (by rfl) (fun u => ?_) ?_; rotate_left; (go_simp; try with_reducible rfl); simp only [Act.put, zA, zB, zC])

      refine Lex3.run_eff (by rfl) (by rfl) (fun n1 K1 hK1 => ?_)
      have hS1 : Blk (wr.drew.drewN n1) s 31 (segC m nilS nilS nilS vp vi) := hS
      have hi1 : (wr.drew.drewN n1).ownsRow base 5 1 vi k (u8s (tk.map (·.1))) := howi
      have hp1 : (wr.drew.drewN n1).ownsRow base 92 3 vp k ((tk.map (·.2)).flatMap partC) := howp
      have hb1 : But2 base s s w (wr.drew.drewN n1) := (hbut.drew 1).drew n1
      have hz1' : base ≤ (wr.drew.drewN n1).heap.size := hz
      clear hS howi howp hbut hz
      generalize wr.drew.drewN n1 = W1 at hS1 hi1 hp1 hb1 hz1' ⊢
      go_simp
      have hS2 := hS1.alloc (.cells #[.int .i64 0, .int .u8 0, .int .u8 0] 92)
      have hF2 := Blk.new W1 92 #[.int .i64 0, .int .u8 0, .int .u8 0]
      have hi2 := hi1.alloc (.cells #[.int .i64 0, .int .u8 0, .int .u8 0] 92)
      have hp2 := hp1.alloc (.cells #[.int .i64 0, .int .u8 0, .int .u8 0] 92)
      have hb2 : But2 base s s w (W1.alloc (.cells #[.int .i64 0, .int .u8 0, .int .u8 0] 92)) := hb1.trans (But2.of_below ((Below.refl _ _).alloc hz1' _))
      have hz2' : base ≤ (W1.alloc (.cells #[.int .i64 0, .int .u8 0, .int .u8 0] 92)).heap.size := by simp; omega
      refine hK1 _ _ trivial ?_
      clear hK1 K1 hS1 hb1
      have hne2 : vi.ownBlock ≠ some W1.heap.size ∧ vp.ownBlock ≠ some W1.heap.size := ⟨fun e => by have := (hi1.lt _ e).2; omega, fun e => by have := (hp1.lt _ e).2; omega⟩
      clear hi1 hp1
      generalize hq : W1.heap.size = q at hF2 hz1' hne2 ⊢
      generalize W1.alloc (.cells #[.int .i64 0, .int .u8 0, .int .u8 0] 92) = W2 at hS2 hF2 hi2 hp2 hb2 hz2' ⊢
      clear hq
      try simp only [Act.put, zA, zB, zC]


      refine Lex3.run_eff (by rfl) (by rfl) (fun n2 K2 hK2 => ?_)
      have hS3 : Blk (W2.drewN n2) s 31 (segC m nilS nilS nilS vp vi) := hS2
      have hF3 : Blk (W2.drewN n2) q 92 #[.int .i64 0, .int .u8 0, .int .u8 0] := hF2
      have hi3 : (W2.drewN n2).ownsRow base 5 1 vi k (u8s (tk.map (·.1))) := hi2
      have hp3 : (W2.drewN n2).ownsRow base 92 3 vp k ((tk.map (·.2)).flatMap partC) := hp2
      have hb3 := hb2.drew n2
      have hz3' : base ≤ (W2.drewN n2).heap.size := hz2'
      clear hS2 hF2 hb2 hi2 hp2 hz2'
      generalize W2.drewN n2 = W3 at hS3 hF3 hb3 hi3 hp3 hz3' ⊢
      have HS3 := Lib.hid (show (Tryz.prog.info? 92).map (·.size) = some (#[.int .i64 0, .int .u8 (h : Int), .int .u8 (u : Int)] : Array Value).size from size3P)
      refine wp_store_blk 92 (.tmp 6) (.tmp 52) (by rfl) q 92 #[.int .i64 0, .int .u8 0, .int .u8 0] #[.int .i64 0, .int .u8 (h : Int), .int .u8 (u : Int)] (by rfl) (by rfl) hF3 HS3.out rfl (all_oneCell_toArray (by intro u hu; simp at hu; rcases hu with rfl | rfl | rfl <;> rfl)) ?_
      have hF4 := hF3.row (ds := #[.int .i64 0, .int .u8 (h : Int), .int .u8 (u : Int)])
      have hS4 := hS3.rowFar (ds := #[.int .i64 0, .int .u8 (h : Int), .int .u8 (u : Int)]) (g' := q) (by omega)
      have hi4 := own_keep hi3 (w' := W3.setRow q #[.int .i64 0, .int .u8 (h : Int), .int .u8 (u : Int)]) (fun g hg => setRow_other W3 q g _ (fun e => hne2.1 (e ▸ hg)))
      have hp4 := own_keep hp3 (w' := W3.setRow q #[.int .i64 0, .int .u8 (h : Int), .int .u8 (u : Int)]) (fun g hg => setRow_other W3 q g _ (fun e => hne2.2 (e ▸ hg)))
      have hb4 : But2 base s s w (W3.setRow q #[.int .i64 0, .int .u8 (h : Int), .int .u8 (u : Int)]) := hb3.trans (But2.of_grown (grown_row (grown_of_below (Below.refl _ _) (some q)) (.inr rfl) _) (fun g e => .inr (.inr (by injection e; omega))) hz3')
      have hz4' : base ≤ (W3.setRow q #[.int .i64 0, .int .u8 (h : Int), .int .u8 (u : Int)]).heap.size := by have := (grown_row (grown_of_below (Below.refl W3.heap.size W3) (some q)) (.inr rfl) #[.int .i64 0, .int .u8 (h : Int), .int .u8 (u : Int)]).size; omega
      refine hK2 _ _ trivial ?_
      clear hK2 K2 hS3 hF3 hb3 hi3 hp3 hz3'
      generalize W3.setRow q #[.int .i64 0, .int .u8 (h : Int), .int .u8 (u : Int)] = W4 at hS4 hF4 hb4 hi4 hp4 hz4' ⊢
      try simp only [Act.put]


      refine Lex3.run_nil (fun n3 => ?_)
      have hS5 : Blk (W4.drewN n3) s 31 (segC m nilS nilS nilS vp vi) := hS4
      have hF5 : Blk (W4.drewN n3) q 92 #[.int .i64 0, .int .u8 (h : Int), .int .u8 (u : Int)] := hF4
      have hi5 : (W4.drewN n3).ownsRow base 5 1 vi k (u8s (tk.map (·.1))) := hi4
      have hp5 : (W4.drewN n3).ownsRow base 92 3 vp k ((tk.map (·.2)).flatMap partC) := hp4
      have hb5 := hb4.drew n3
      have hz5' : base ≤ (W4.drewN n3).heap.size := hz4'
      clear hS4 hF4 hb4 hi4 hp4 hz4'
      generalize W4.drewN n3 = W5 at hS5 hF5 hb5 hi5 hp5 hz5' ⊢
      have f1 : W5.cell? ⟨q, 1, none⟩ = some (.int .u8 (h : Int)) := by rw [hF5.cell]; rfl
      have f2 : W5.cell? ⟨q, 2, none⟩ = some (.int .u8 (u : Int)) := by rw [hF5.cell]; rfl
      by_cases h3 : 3 < h
      · have hres : rsM d = 155 := by rw [HRS.out, if_pos (any_of_take (HK.out.2.2.2.2.1.trans (decide_eq_true (.inl h3))))]
        have HR := Lib.hid hres; clear hres
        go_wp2_with fail
        go_ret
        unfold RSP
        rw [HR.out]
        exact ⟨rfl, hb5, fun h => by cases h⟩
      by_cases u3 : 3 < u
      · have hres : rsM d = 155 := by rw [HRS.out, if_pos (any_of_take (HK.out.2.2.2.2.1.trans (decide_eq_true (.inr u3))))]
        have HR := Lib.hid hres; clear hres
        go_wp2_with fail
        go_ret
        unfold RSP
        rw [HR.out]
        exact ⟨rfl, hb5, fun h => by cases h⟩
      have hgood : (ps.take (k + 1)).any (fun p => decide (3 < p.2.dc ∨ 3 < p.2.ac)) = false := HK.out.2.2.2.2.1.trans (decide_eq_false (by omega))
      have HG := Lib.hid hgood; clear hgood
      go_upto_region 11 with fail
      clear f1 f2
      have hI : W5.cell? ⟨s, 10, none⟩ = some vi := by rw [hS5.cell]; rfl
      refine LexZ.wp_region [] 12 rfl _ rfl rfl (fun u => u.cell? ⟨s, 10, none⟩ = some vi) (fun u n h => h) hI (by kernel_rfl) ?_
      refine LexZ.take 0 (by rfl) (by kernel_rfl) (Lex4.free_ (v := ?_) (by rfl) (by rfl) (fun u => ?_) ?_); rotate_left; (go_simp; try with_reducible rfl); simp only [Act.put, zA, zB, zC]
      refine LexZ.take 1 (by rfl) (by kernel_rfl) (Lex4.free_ (v := ?_) (by rfl) (by rfl) (fun u => ?_) ?_); rotate_left; (go_simp; try with_reducible rfl); simp only [Act.put, zA, zB, zC]
      refine LexZ.take 2 (by rfl) (by kernel_rfl) (Lex4.free_ (v := ?_) (by rfl) (by rfl) (fun u => ?_) ?_); rotate_left; (go_simp; try with_reducible rfl); simp only [Act.put, zA, zB, zC]
      refine LexZ.take 3 (by rfl) (by kernel_rfl) (Lex4.free_ (v := ?_) (by rfl) (by rfl) (fun u => ?_) ?_); rotate_left; (go_simp; try with_reducible rfl); simp only [Act.put, zA, zB, zC]
      refine LexZ.take 4 (by rfl) (by kernel_rfl) (Lex4.load_ (v := ?_) (by rfl) (by rfl) (fun u hu => ?_) ?_); rotate_left; (go_simp; try with_reducible rfl); simp only [Act.put, zA, zB, zC]
      refine LexZ.take 5 (by rfl) (by kernel_rfl) (Lex4.free_ (v := ?_) (by rfl) (by rfl) (fun u => ?_) ?_); rotate_left; (go_simp; try with_reducible rfl); simp only [Act.put, zA, zB, zC]
      refine LexZ.take 6 (by rfl) (by kernel_rfl) (Lex4.free_ (v := ?_) (by rfl) (by rfl) (fun u => ?_) ?_); rotate_left; (go_simp; try with_reducible rfl); simp only [Act.put, zA, zB, zC]
      refine LexZ.take 7 (by rfl) (by kernel_rfl) (Lex4.free_ (v := ?_) (by rfl) (by rfl) (fun u => ?_) ?_); rotate_left; (go_simp; try with_reducible rfl); simp only [Act.put, zA, zB, zC]
      obtain ⟨ib, ib1, ib2, ib3, ib4⟩ := info_parts infoB
      have IB := Lib.hid (And.intro ib1 (And.intro ib2 (And.intro ib3 ib4))); clear ib1 ib2 ib3 ib4
      obtain ⟨iq, iq1, iq2, iq3, iq4⟩ := info_parts infoP3
      obtain ⟨zqv, hzqv⟩ : ∃ z, z = Value.agg #[.int .i64 0, .int .u8 0, .int .u8 0] := ⟨_, rfl⟩
      rw [← hzqv] at iq2
      have iq5 : zqv.cells.size = 3 := by rw [hzqv]; rfl
      clear hzqv
      have IQ := Lib.hid (And.intro iq1 (And.intro iq2 (And.intro iq3 (And.intro iq4 iq5)))); clear iq1 iq2 iq3 iq4 iq5
      have hk4 : k ≤ 255 := by have := HK.out; omega
      have hqi : vi.ownBlock ≠ some q := fun e => row_ne hi5 hF5 (by decide) e
      have hqp : vp.ownBlock ≠ some q := hne2.2
      clear hne2
      refine LexZ.take 8 (by rfl) (by kernel_rfl) (Lex4.eff_ (by rfl) (by rfl) (fun n1 K1 hK1 => ?_))
      have hS6 : Blk (W5.drew.drewN n1) s 31 (segC m nilS nilS nilS vp vi) := hS5
      have hF6 : Blk (W5.drew.drewN n1) q 92 #[.int .i64 0, .int .u8 (h : Int), .int .u8 (u : Int)] := hF5
      have hi6 : (W5.drew.drewN n1).ownsRow base 5 1 vi k (u8s (tk.map (·.1))) := hi5
      have hp6 : (W5.drew.drewN n1).ownsRow base 92 3 vp k ((tk.map (·.2)).flatMap partC) := hp5
      have hb6 : But2 base s s w (W5.drew.drewN n1) := (hb5.drew 1).drew n1
      have hz6 : base ≤ (W5.drew.drewN n1).heap.size := hz5'
      clear hS5 hF5 hi5 hp5 hb5 hz5' hI
      generalize W5.drew.drewN n1 = W6 at hS6 hF6 hi6 hp6 hb6 hz6 ⊢
      go_simp
      have hS7 := hS6.alloc (.cells #[.int .u8 (X0 : Int)] 5)
      have hF7 := hF6.alloc (.cells #[.int .u8 (X0 : Int)] 5)
      have hi7 := hi6.alloc (.cells #[.int .u8 (X0 : Int)] 5)
      have hp7 := hp6.alloc (.cells #[.int .u8 (X0 : Int)] 5)
      have hb7 : But2 base s s w (W6.alloc (.cells #[.int .u8 (X0 : Int)] 5)) := hb6.trans (But2.of_below ((Below.refl _ _).alloc hz6 _))
      have hn7 := Blk.new W6 5 #[.int .u8 (X0 : Int)]
      have hz7 : base ≤ (W6.alloc (.cells #[.int .u8 (X0 : Int)] 5)).heap.size := by simp; omega
      refine hK1 _ _ (by rw [hS7.cell]; rfl) ?_
      clear hS6 hF6 hi6 hp6 hb6 hK1 K1
      generalize hbn : W6.heap.size = bn at hn7 hz6 ⊢
      generalize W6.alloc (.cells #[.int .u8 (X0 : Int)] 5) = W7 at hS7 hF7 hi7 hp7 hb7 hn7 hz7 ⊢
      clear hbn
      try simp only [Act.put, zA, zB, zC]
      refine LexZ.take 9 (by rfl) (by kernel_rfl) (Lex4.eff_ (by rfl) (by rfl) (fun n2 K2 hK2 => ?_))
      have hS8 : Blk (W7.drewN n2) s 31 (segC m nilS nilS nilS vp vi) := hS7
      have hF8 : Blk (W7.drewN n2) q 92 #[.int .i64 0, .int .u8 (h : Int), .int .u8 (u : Int)] := hF7
      have hi8 : (W7.drewN n2).ownsRow base 5 1 vi k (u8s (tk.map (·.1))) := hi7
      have hp8 : (W7.drewN n2).ownsRow base 92 3 vp k ((tk.map (·.2)).flatMap partC) := hp7
      have hb8 : But2 base s s w (W7.drewN n2) := hb7.drew n2
      have hn8 : Blk (W7.drewN n2) bn 5 #[.int .u8 (X0 : Int)] := hn7
      have hz8 : base ≤ (W7.drewN n2).heap.size := hz7
      clear hS7 hF7 hi7 hp7 hb7 hn7 hz7
      generalize W7.drewN n2 = W8 at hS8 hF8 hi8 hp8 hb8 hn8 hz8 ⊢
      refine wp_append_lies W8 (.tmp 65) (.tmp 69) 29 rfl base 5 ib (.int .u8 0) 1 1 Tryz.underlying29 IB.out.1 IB.out.2.1 IB.out.2.2.1 IB.out.2.2.2 rfl (by decide) vi k (u8s (tk.map (·.1))) (by rfl) hi8 ⟨bn, 0, none⟩ 1 1 [.int .u8 (X0 : Int)] (by rfl) rfl (fun i u hu => by rw [Addr.add_mid, hn8.cell, Nat.zero_add]; simpa using hu) (by intro u hu; simp at hu; subst hu; rfl) (by decide) (by unfold maxLen; omega) (by omega) hz8 W8.heap.size rfl ?_
      intro gg capi W9 hi9 hgr9 hat9 hlt9
      have hne : ∀ g, vi.ownBlock = some g → base ≤ g := fun g e => (hi8.lt g e).1
      have hS9 := hS8.grown hgr9 (fun e => by have := hne s e.symm; omega)
      have hF9 := hF8.grown hgr9 (fun e => hqi e.symm)
      have hvv : ∀ g, vp.ownBlock = some g → vi.ownBlock ≠ some g := fun g e e2 => own_apart hp8 hi8 (by decide) e e2
      have hp9 := own_keep hp8 (w' := W9) (fun g hg => hgr9.block g (hp8.lt g hg).2 (fun e => hvv g hg e.symm))
      have hb9 := hb8.trans (But2.of_grown hgr9 (fun g e => .inr (.inr (hne g e))) hz8)
      have hz9 : base ≤ W9.heap.size := Nat.le_trans hz8 hgr9.size
      refine hK2 _ _ (by rw [hS9.cell]; rfl) ?_
      clear hK2 K2 hS8 hF8 hi8 hp8 hb8 hn8 hgr9 hat9 hlt9 hne hvv
      try simp only [Act.put, zA, zB, zC]
      refine LexZ.take 10 (by rfl) (by kernel_rfl) (Lex4.free_ (v := ?_) (by rfl) (by rfl) (fun u => ?_) ?_); rotate_left; (go_simp; try with_reducible rfl); simp only [Act.put, zA, zB, zC]
      refine LexZ.take 11 (by rfl) (by kernel_rfl) (Lex4.free_ (v := ?_) (by rfl) (by rfl) (fun u => ?_) ?_); rotate_left; (go_simp; try with_reducible rfl); simp only [Act.put, zA, zB, zC]
      refine LexZ.done (by kernel_rfl) (by kernel_rfl) (fun n9 => ?_)
      have hS10 : Blk (W9.drewN n9) s 31 (segC m nilS nilS nilS vp vi) := hS9
      have hF10 : Blk (W9.drewN n9) q 92 #[.int .i64 0, .int .u8 (h : Int), .int .u8 (u : Int)] := hF9
      have hp10 : (W9.drewN n9).ownsRow base 92 3 vp k ((tk.map (·.2)).flatMap partC) := hp9
      have hb10 := hb9.drew n9
      have hz10 : base ≤ (W9.drewN n9).heap.size := hz9
      have hi10 : (W9.drewN n9).ownsRow base 5 1 (.slice (some ⟨gg, 0, none⟩) (k + 1) capi) (k + 1) (u8s (tk.map (·.1)) ++ [.int .u8 (X0 : Int)]) := hi9
      clear hS9 hF9 hp9 hb9 hz9 hi9
      generalize W9.drewN n9 = W10 at hS10 hF10 hp10 hb10 hz10 hi10 ⊢
      have hc10 : W10.cell? ⟨s, 10, none⟩ = some vi := by rw [hS10.cell]; rfl
      have hf10 : W10.frozen? ⟨s, 10, none⟩ = false := hS10.frozen _
      have hS11 := hS10.set 10 (.slice (some ⟨gg, 0, none⟩) (k + 1) capi)
      have hF11 := hF10.far (p := ⟨s, 10, none⟩) (show q ≠ s by omega) (.slice (some ⟨gg, 0, none⟩) (k + 1) capi)
      have hi11 := own_keep hi10 (w' := W10.setCell ⟨s, 10, none⟩ (.slice (some ⟨gg, 0, none⟩) (k + 1) capi)) (fun g' hg' => Below.heap_setCell W10 _ _ g' (by have := (hi10.lt g' hg').1; show g' ≠ s; omega))
      have hp11 := own_keep hp10 (w' := W10.setCell ⟨s, 10, none⟩ (.slice (some ⟨gg, 0, none⟩) (k + 1) capi)) (fun g' hg' => Below.heap_setCell W10 _ _ g' (by have := (hp10.lt g' hg').1; show g' ≠ s; omega))
      have hb11 : But2 base s s w (W10.setCell ⟨s, 10, none⟩ (.slice (some ⟨gg, 0, none⟩) (k + 1) capi)) := hb10.trans (But2.of_grown (w5_one W10 s _) (fun g' e => .inl (by injection e with e; exact e.symm)) hz10)
      have hz11 : base ≤ (W10.setCell ⟨s, 10, none⟩ (.slice (some ⟨gg, 0, none⟩) (k + 1) capi)).heap.size := by simp; omega
      go_simp
      clear hS10 hF10 hi10 hp10 hb10 hz10 hc10 hf10
      rw [show (segC m nilS nilS nilS vp vi).setIfInBounds 10 (.slice (some ⟨gg, 0, none⟩) (k + 1) capi) = segC m nilS nilS nilS vp (.slice (some ⟨gg, 0, none⟩) (k + 1) capi) from rfl] at hS11
      generalize W10.setCell ⟨s, 10, none⟩ (.slice (some ⟨gg, 0, none⟩) (k + 1) capi) = W11 at hS11 hF11 hi11 hp11 hb11 hz11 ⊢
      generalize (Value.slice (some ⟨gg, 0, none⟩) (k + 1) capi) = vi2 at hS11 hi11 ⊢
      go_upto_region 12 with fail
      have hI : W11.cell? ⟨s, 9, none⟩ = some vp ∧ Blk W11 q 92 #[.int .i64 0, .int .u8 (h : Int), .int .u8 (u : Int)] := ⟨by rw [hS11.cell]; rfl, hF11⟩
      refine LexZ.wp_region [] 10 rfl _ rfl rfl (fun ww => ww.cell? ⟨s, 9, none⟩ = some vp ∧ Blk ww q 92 #[.int .i64 0, .int .u8 (h : Int), .int .u8 (u : Int)]) (fun ww n h => h) hI (by kernel_rfl) ?_
      refine LexZ.take 0 (by rfl) (by kernel_rfl) (Lex4.free_ (v := ?_) (by rfl) (by rfl) (fun u => ?_) ?_); rotate_left; (go_simp; try with_reducible rfl); simp only [Act.put, zA, zB, zC]
      refine LexZ.take 1 (by rfl) (by kernel_rfl) (Lex4.free_ (v := ?_) (by rfl) (by rfl) (fun u => ?_) ?_); rotate_left; (go_simp; try with_reducible rfl); simp only [Act.put, zA, zB, zC]
      refine LexZ.take 2 (by rfl) (by kernel_rfl) (Lex4.free_ (v := ?_) (by rfl) (by rfl) (fun u => ?_) ?_); rotate_left; (go_simp; try with_reducible rfl); simp only [Act.put, zA, zB, zC]
      refine LexZ.take 3 (by rfl) (by kernel_rfl) (Lex4.free_ (v := ?_) (by rfl) (by rfl) (fun u => ?_) ?_); rotate_left; (go_simp; try with_reducible rfl); simp only [Act.put, zA, zB, zC]
      refine LexZ.take 4 (by rfl) (by kernel_rfl) (Lex4.load_ (v := ?_) (by rfl) (by rfl) (fun u hu => ?_) ?_); rotate_left; (obtain ⟨hu0, hu1⟩ := hu; go_simp; try with_reducible rfl); simp only [Act.put, zA, zB, zC]
      refine LexZ.take 5 (by rfl) (by kernel_rfl) (Lex4.load_ (v := .agg #[.int .i64 0, .int .u8 (h : Int), .int .u8 (u : Int)]) (by rfl) (by rfl) (fun ww hw9 => val_load_mid 92 (.tmp 6) rfl q 0 rfl [.int .i64 0, .int .u8 (h : Int), .int .u8 (u : Int)] _ (hw9.2.range 0 _ (by simp)) Tryz.underlying92 rfl size3P) ?_); simp only [Act.put, zA, zB, zC]
      refine LexZ.take 6 (by rfl) (by kernel_rfl) (Lex4.eff_ (by rfl) (by rfl) (fun n1 K1 hK1 => ?_))
      have hS6 : Blk (W11.drew.drewN n1) s 31 (segC m nilS nilS nilS vp vi2) := hS11
      have hF6 : Blk (W11.drew.drewN n1) q 92 #[.int .i64 0, .int .u8 (h : Int), .int .u8 (u : Int)] := hF11
      have hi6 : (W11.drew.drewN n1).ownsRow base 5 1 vi2 (k + 1) (u8s (tk.map (·.1)) ++ [.int .u8 (X0 : Int)]) := hi11
      have hp6 : (W11.drew.drewN n1).ownsRow base 92 3 vp k ((tk.map (·.2)).flatMap partC) := hp11
      have hb6 : But2 base s s w (W11.drew.drewN n1) := (hb11.drew 1).drew n1
      have hz6 : base ≤ (W11.drew.drewN n1).heap.size := hz11
      clear hS11 hF11 hi11 hp11 hb11 hz11 hI
      generalize W11.drew.drewN n1 = W6 at hS6 hF6 hi6 hp6 hb6 hz6 ⊢
      refine wp_buildOne 28 92 (.tmp 78) rfl #[.int .i64 0, .int .u8 (h : Int), .int .u8 (u : Int)] rfl iq zqv 3 Tryz.underlying28 IQ.out.1 IQ.out.2.1 IQ.out.2.2.1 rfl (by decide) (by decide) ?_
      have hS7 := hS6.alloc (.cells #[.int .i64 0, .int .u8 (h : Int), .int .u8 (u : Int)] 92)
      have hF7 := hF6.alloc (.cells #[.int .i64 0, .int .u8 (h : Int), .int .u8 (u : Int)] 92)
      have hi7 := hi6.alloc (.cells #[.int .i64 0, .int .u8 (h : Int), .int .u8 (u : Int)] 92)
      have hp7 := hp6.alloc (.cells #[.int .i64 0, .int .u8 (h : Int), .int .u8 (u : Int)] 92)
      have hb7 : But2 base s s w (W6.alloc (.cells #[.int .i64 0, .int .u8 (h : Int), .int .u8 (u : Int)] 92)) := hb6.trans (But2.of_below ((Below.refl _ _).alloc hz6 _))
      have hn7 := Blk.new W6 92 #[.int .i64 0, .int .u8 (h : Int), .int .u8 (u : Int)]
      have hz7 : base ≤ (W6.alloc (.cells #[.int .i64 0, .int .u8 (h : Int), .int .u8 (u : Int)] 92)).heap.size := by simp; omega
      refine hK1 _ _ ⟨by rw [hS7.cell]; rfl, hF7⟩ ?_
      clear hS6 hF6 hi6 hp6 hb6 hK1 K1
      generalize hbn : W6.heap.size = bn at hn7 hz6 ⊢
      generalize W6.alloc (.cells #[.int .i64 0, .int .u8 (h : Int), .int .u8 (u : Int)] 92) = W7 at hS7 hF7 hi7 hp7 hb7 hn7 hz7 ⊢
      clear hbn
      try simp only [Act.put, zA, zB, zC]
      refine LexZ.take 7 (by rfl) (by kernel_rfl) (Lex4.eff_ (by rfl) (by rfl) (fun n2 K2 hK2 => ?_))
      have hS8 : Blk (W7.drewN n2) s 31 (segC m nilS nilS nilS vp vi2) := hS7
      have hF8 : Blk (W7.drewN n2) q 92 #[.int .i64 0, .int .u8 (h : Int), .int .u8 (u : Int)] := hF7
      have hi8 : (W7.drewN n2).ownsRow base 5 1 vi2 (k + 1) (u8s (tk.map (·.1)) ++ [.int .u8 (X0 : Int)]) := hi7
      have hp8 : (W7.drewN n2).ownsRow base 92 3 vp k ((tk.map (·.2)).flatMap partC) := hp7
      have hb8 : But2 base s s w (W7.drewN n2) := hb7.drew n2
      have hn8 : Blk (W7.drewN n2) bn 92 #[.int .i64 0, .int .u8 (h : Int), .int .u8 (u : Int)] := hn7
      have hz8 : base ≤ (W7.drewN n2).heap.size := hz7
      clear hS7 hF7 hi7 hp7 hb7 hn7 hz7
      generalize W7.drewN n2 = W8 at hS8 hF8 hi8 hp8 hb8 hn8 hz8 ⊢
      refine wp_append_lies W8 (.tmp 77) (.tmp 79) 28 rfl base 92 iq zqv 3 16 Tryz.underlying28 IQ.out.1 IQ.out.2.1 IQ.out.2.2.1 IQ.out.2.2.2.1 IQ.out.2.2.2.2 (by decide) vp k ((tk.map (·.2)).flatMap partC) (by rfl) hp8 ⟨bn, 0, none⟩ 1 1 [.int .i64 0, .int .u8 (h : Int), .int .u8 (u : Int)] (by rfl) rfl (fun i u hu => by rw [Addr.add_mid, hn8.cell, Nat.zero_add]; simpa using hu) (by intro u hu; simp at hu; rcases hu with rfl | rfl | rfl <;> rfl) (by decide) (by unfold maxLen; omega) (by omega) hz8 W8.heap.size rfl ?_
      intro gg2 capp W9 hp9 hgr9 hat9 hlt9
      have hne : ∀ g, vp.ownBlock = some g → base ≤ g := fun g e => (hp8.lt g e).1
      have hS9 := hS8.grown hgr9 (fun e => by have := hne s e.symm; omega)
      have hF9 := hF8.grown hgr9 (fun e => hqp e.symm)
      have hvv : ∀ g, vi2.ownBlock = some g → vp.ownBlock ≠ some g := fun g e e2 => own_apart hi8 hp8 (by decide) e e2
      have hi9 := own_keep hi8 (w' := W9) (fun g hg => hgr9.block g (hi8.lt g hg).2 (fun e => hvv g hg e.symm))
      have hb9 := hb8.trans (But2.of_grown hgr9 (fun g e => .inr (.inr (hne g e))) hz8)
      have hz9 : base ≤ W9.heap.size := Nat.le_trans hz8 hgr9.size
      refine hK2 _ _ ⟨by rw [hS9.cell]; rfl, hF9⟩ ?_
      clear hK2 K2 hS8 hF8 hi8 hp8 hb8 hn8 hgr9 hat9 hlt9 hne hvv hF9
      try simp only [Act.put, zA, zB, zC]
      refine LexZ.take 8 (by rfl) (by kernel_rfl) (Lex4.free_ (v := ?_) (by rfl) (by rfl) (fun u => ?_) ?_); rotate_left; (go_simp; try with_reducible rfl); simp only [Act.put, zA, zB, zC]
      refine LexZ.take 9 (by rfl) (by kernel_rfl) (Lex4.free_ (v := ?_) (by rfl) (by rfl) (fun u => ?_) ?_); rotate_left; (go_simp; try with_reducible rfl); simp only [Act.put, zA, zB, zC]
      refine LexZ.done (by kernel_rfl) (by kernel_rfl) (fun n9 => ?_)
      have hS10 : Blk (W9.drewN n9) s 31 (segC m nilS nilS nilS vp vi2) := hS9
      have hi10 : (W9.drewN n9).ownsRow base 5 1 vi2 (k + 1) (u8s (tk.map (·.1)) ++ [.int .u8 (X0 : Int)]) := hi9
      have hb10 := hb9.drew n9
      have hz10 : base ≤ (W9.drewN n9).heap.size := hz9
      have hp10 : (W9.drewN n9).ownsRow base 92 3 (.slice (some ⟨gg2, 0, none⟩) (k + 1) capp) (k + 1) ((tk.map (·.2)).flatMap partC ++ [.int .i64 0, .int .u8 (h : Int), .int .u8 (u : Int)]) := hp9
      clear hS9 hp9 hb9 hz9 hi9
      generalize W9.drewN n9 = W10 at hS10 hp10 hb10 hz10 hi10 ⊢
      have hc10 : W10.cell? ⟨s, 9, none⟩ = some vp := by rw [hS10.cell]; rfl
      have hf10 : W10.frozen? ⟨s, 9, none⟩ = false := hS10.frozen _
      have hS11 := hS10.set 9 (.slice (some ⟨gg2, 0, none⟩) (k + 1) capp)
      have hi11 := own_keep hi10 (w' := W10.setCell ⟨s, 9, none⟩ (.slice (some ⟨gg2, 0, none⟩) (k + 1) capp)) (fun g' hg' => Below.heap_setCell W10 _ _ g' (by have := (hi10.lt g' hg').1; show g' ≠ s; omega))
      have hp11 := own_keep hp10 (w' := W10.setCell ⟨s, 9, none⟩ (.slice (some ⟨gg2, 0, none⟩) (k + 1) capp)) (fun g' hg' => Below.heap_setCell W10 _ _ g' (by have := (hp10.lt g' hg').1; show g' ≠ s; omega))
      have hb11 : But2 base s s w (W10.setCell ⟨s, 9, none⟩ (.slice (some ⟨gg2, 0, none⟩) (k + 1) capp)) := hb10.trans (But2.of_grown (w5_one W10 s _) (fun g' e => .inl (by injection e with e; exact e.symm)) hz10)
      rw [show (segC m nilS nilS nilS vp vi2).setIfInBounds 9 (.slice (some ⟨gg2, 0, none⟩) (k + 1) capp) = segC m nilS nilS nilS (.slice (some ⟨gg2, 0, none⟩) (k + 1) capp) vi2 from rfl] at hS11
      have HF := Lib.hid (And.intro hS11 (And.intro hi11 (And.intro hp11 hb11))); clear hS11 hi11 hp11 hb11 hS10 hi10 hp10 hb10 hz10
      have hw2p : IntKind.i64.wrap ((p : Int) + 2) = (p : Int) + 2 := IntWalk.i64_in _ (by omega)
      go_simp
      go_wp2_with fail
      go_roundw
      case rel =>
        refine ⟨k + 1, by have := HK.out; omega, by have := HK.out.2.1; go_num, ⟨_, _, HF.out.1, ?_, ?_, HF.out.2.2.2⟩, HG.out⟩
        · rw [HK.out.2.2.2.1, List.length_append, List.map_append, u8s_append, hlk]
          exact HF.out.2.1
        · rw [HK.out.2.2.2.1, List.length_append, List.map_append, List.flatMap_append, hlk]
          exact HF.out.2.2.1
      case measure => simp [intOf]; omega
    · obtain rfl : k = c := by omega
      have hall : ps.take k = ps := List.take_of_length_le (by rw [HPL.out.1]; exact Nat.le_refl _)
      rw [hall] at howi howp hany
      have hres : rsM d = 0 := by rw [HRS.out, hany]; rfl
      have HR := Lib.hid (And.intro hres (And.intro hS (And.intro howi (And.intro howp hbut)))); clear hres hS howi howp hbut hany hall
      have hpk : ¬ (p : Int) < (n : Int) - 3 := by have := HN6.out; omega
      clear hp hk hlt
      go_wp2_with fail
      go_ret
      unfold RSP
      rw [HR.out.1]
      exact ⟨rfl, HR.out.2.2.2.2, fun _ => by rw [HPSD.out]; exact ⟨_, _, HR.out.2.1, HR.out.2.2.1, HR.out.2.2.2.1, HR.out.2.2.2.2⟩⟩
end Go.Proofs.YtjfgfoeenajneaaGreatDoor.Sg
namespace Go.Proofs.YtjfgfoeenajneaaGreatDoor.Sg
open Go.RowKit

section
variable {P : Program} {w : World}
theorem run_append_empty (base : Nat) (t ty e : TypeId) (i : TypeInfo) (size : Nat) (ht : P.underlying t = some (.slice e)) (hi : P.info? e = some i) (v : Value) (n : Nat) (xs : List Value) (hown : w.ownsRow base e size v n xs) (c : Nat) :
    (Builtin.append_ #[t, t] ty #[v, .slice none 0 c]).run P w = .ok v w := by
  rcases hown.2 with ⟨rfl, rfl⟩ | ⟨g, cap, cur, rfl, _, _, hnc, _⟩
  · simp [Builtin.append_, run_underlying ht, sizeOf, typeInfo, hi, Builtin.lenOf, Builtin.firstCells]
  · simp [Builtin.append_, run_underlying ht, sizeOf, typeInfo, hi, Builtin.lenOf, Builtin.firstCells, hnc, storeCells]
/-- what is appended may be nothing -/
theorem run_append_rows (t ty : TypeId) (base : Nat) (e : TypeId) (i : TypeInfo) (z : Value) (size bytes : Nat) (ht : P.underlying t = some (.slice e)) (hi : P.info? e = some i) (hz : i.zero = some z)
    (hsize : i.size = size) (hby : i.bytes = bytes) (hzs : z.cells.size = size) (hsz : 0 < size)
    (v : Value) (n : Nat) (xs : List Value) (hown : w.ownsRow base e size v n xs)
    (A : Option Addr) (m c : Nat) (news : List Value) (hr : Rows size w A m news) (h1 : ∀ u ∈ news, u.oneCell' = true)
    (h63 : n + m ≤ maxLen) (hbytes : (n + m) * bytes ≤ 140737488355328) (hbase : base ≤ w.heap.size) :
    ∃ v' w', (Builtin.append_ #[t, t] ty #[v, .slice A m c]).run P w = .ok v' w' ∧ w'.ownsRow base e size v' (n + m) (xs ++ news) ∧ w.grownBy w' v.ownBlock ∧ (v'.ownBlock = v.ownBlock ∨ v'.ownBlock = some w.heap.size) := by
  have hm0 : m = 0 → news = [] := fun h => List.eq_nil_of_length_eq_zero (by rw [hr.1, h, Nat.zero_mul])
  cases A with
  | none =>
    obtain rfl : m = 0 := by
      rcases Nat.eq_zero_or_pos m with h | h
      · exact h
      · obtain ⟨_, _, h9, _⟩ := hr.2 h
        cases h9
    rw [hm0 rfl, List.append_nil, Nat.add_zero]
    exact ⟨v, w, run_append_empty base t ty e i size ht hi v n xs hown c, hown, grown_of_below (Below.refl _ _) _, .inl rfl⟩
  | some ad =>
    obtain ⟨v', w', e1, e2, e3, _, e5⟩ := run_append_own_at (P := P) w base t ty e i z size bytes ht hi hz hsize hby hzs hsz v n xs hown ad m c news hr.1 (fun j u hu => by
      rcases Nat.eq_zero_or_pos m with h | h
      · rw [hm0 h] at hu; simp at hu
      · obtain ⟨b, o, h9, hc⟩ := hr.2 h
        injection h9 with h9
        subst h9
        rw [Addr.add_mid, hc j (by rw [← hr.1]; exact (List.getElem?_eq_some_iff.1 hu).1)]
        exact hu) h1 h63 hbytes hbase
    exact ⟨v', w', e1, e2, e3, e5⟩
theorem wp_append_rows {o : Oper} {a : Act} {K : Act → World → Prop} {Q : Exit → Act → World → Prop} (s x : Operand) (t : TypeId)
    (ho : o.op = .call { callee := .builtin .append, args := #[s, x], argTypes := #[t, t] })
    (base : Nat) (e : TypeId) (i : TypeInfo) (z : Value) (size bytes : Nat) (ht : P.underlying t = some (.slice e)) (hi : P.info? e = some i) (hz : i.zero = some z)
    (hsize : i.size = size) (hby : i.bytes = bytes) (hzs : z.cells.size = size) (hsz : 0 < size)
    (v : Value) (n : Nat) (xs : List Value) (hs : a.eval s = v) (hown : w.ownsRow base e size v n xs)
    (A : Option Addr) (m c : Nat) (news : List Value) (hx : a.eval x = .slice A m c) (hr : Rows size w A m news) (h1 : ∀ u ∈ news, u.oneCell' = true)
    (h63 : n + m ≤ maxLen) (hbytes : (n + m) * bytes ≤ 140737488355328) (hbase : base ≤ w.heap.size)
    (h : ∀ v' w', w'.ownsRow base e size v' (n + m) (xs ++ news) → w.grownBy w' v.ownBlock → (v'.ownBlock = v.ownBlock ∨ v'.ownBlock = some w.heap.size) → K (a.put o.dst v') w') : o.wp P a w K Q := by
  obtain ⟨v', w', hr, h2, h3, h4⟩ := run_append_rows (P := P) (w := w) t o.type base e i z size bytes ht hi hz hsize hby hzs hsz v n xs hown A m c news hr h1 h63 hbytes hbase
  unfold Oper.wp execOp
  simp only [ho, resolve, invoke, builtin, Sem.run_bind, Sem.run_pure, Result.andThen_ok, List.map_toArray, List.map_cons, List.map_nil, hs, hx, hr]
  exact h v' w' h2 h3 h4
theorem wpList_append_rows {ops : Array Oper} {rest : List Oper} {o : Oper} {a : Act} {Q : Exit → Act → World → Prop} (hgd : o.guard = none) (s x : Operand) (t : TypeId)
    (ho : o.op = .call { callee := .builtin .append, args := #[s, x], argTypes := #[t, t] })
    (base : Nat) (e : TypeId) (i : TypeInfo) (z : Value) (size bytes : Nat) (ht : P.underlying t = some (.slice e)) (hi : P.info? e = some i) (hz : i.zero = some z)
    (hsize : i.size = size) (hby : i.bytes = bytes) (hzs : z.cells.size = size) (hsz : 0 < size)
    (v : Value) (n : Nat) (xs : List Value) (hs : a.eval s = v) (hown : w.ownsRow base e size v n xs)
    (A : Option Addr) (m c : Nat) (news : List Value) (hx : a.eval x = .slice A m c) (hr : Rows size w A m news) (h1 : ∀ u ∈ news, u.oneCell' = true)
    (h63 : n + m ≤ maxLen) (hbytes : (n + m) * bytes ≤ 140737488355328) (hbase : base ≤ w.heap.size)
    (h : ∀ v' w', w'.ownsRow base e size v' (n + m) (xs ++ news) → w.grownBy w' v.ownBlock → (v'.ownBlock = v.ownBlock ∨ v'.ownBlock = some w.heap.size) → wpList P ops Q rest (a.put o.dst v') w') : wpList P ops Q (o :: rest) a w :=
  wpList_plain hgd fun _ hK => wp_append_rows s x t ho base e i z size bytes ht hi hz hsize hby hzs hsz v n xs hs hown A m c news hx hr h1 h63 hbytes hbase fun v' w' h2 h3 h4 => hK _ _ (h v' w' h2 h3 h4)
end
/-- bytes behind a slice, which may be empty in whatever way -/
def SlV (w : World) (v : Value) (t : List Nat) : Prop := ∃ A c, v = .slice A t.length c ∧ Sl w A t.length (u8s t)
theorem SlB.v {w : World} {v : Value} {t : List Nat} (h : SlB w v t) : SlV w v t := by
  obtain ⟨A, c, h1, h2, _⟩ := h
  exact ⟨A, c, h1, h2⟩
theorem SlV.below {w w' : World} {v : Value} {t : List Nat} (h : SlV w v t) (hb : Below w.heap.size w w') : SlV w' v t := by
  obtain ⟨A, c, hv, hs⟩ := h
  exact ⟨A, c, hv, hs.below hb⟩
theorem sl_rows {w : World} {A : Option Addr} {n : Nat} {xs : List Value} (h : Sl w A n xs) : Rows 1 w A n xs := by
  refine ⟨by rw [h.1, Nat.mul_one], fun hn => ?_⟩
  obtain ⟨b, o, h1, h2⟩ := h.2 hn
  exact ⟨b, o, h1, fun j hj => h2 j (by omega)⟩
theorem u8s_one (t : List Nat) : ∀ u ∈ u8s t, u.oneCell' = true := by
  intro u hu
  unfold u8s at hu
  rw [List.mem_map] at hu
  obtain ⟨x, _, rfl⟩ := hu
  rfl
set_option maxRecDepth 100000 in
set_option maxHeartbeats 4000000 in
theorem bytes_any (t : List Nat) (v : Value) (w : World) (h : SlV w v t) (hf : t.length ≤ 10000000000) :
    Calls Tryz.prog 43 #[v] w fun e w' => ∃ v', e = .returned v' ∧ w'.ownsRow w.heap.size 5 1 v' t.length (u8s t) ∧ Below w.heap.size w w' := by
  obtain ⟨A, c, rfl, hs⟩ := h
  obtain ⟨ib, ib1, ib2, ib3, ib4⟩ := info_parts infoB
  have IB := Lib.hid (And.intro ib1 (And.intro ib2 (And.intro ib3 ib4))); clear ib1 ib2 ib3 ib4
  have HC := Lib.hid (sl_rows hs); clear hs
  have hnil : w.ownsRow w.heap.size 5 1 (.slice none 0 0) 0 [] := World.ownsRow_nil _ _ _ _
  go_enter Tryz.func43, Tryz.ntmps43
  go_upto_region 2 with fail
  generalize Value.slice none 0 0 = v0 at hnil ⊢
  go_wp2_with (at_builtin; refine wpList_append_rows rfl (.tmp 4) (.tmp 5) 29 rfl w.heap.size 5 ib (.int .u8 0) 1 1 Tryz.underlying29 IB.out.1 IB.out.2.1 IB.out.2.2.1 IB.out.2.2.2 rfl (by decide) v0 0 [] rfl hnil A t.length c (u8s t) rfl HC.out (u8s_one t) (by unfold maxLen; omega) (by omega) (Nat.le_refl _) ?_; intro v' w6 hown6 hgrow6 hat6)
  go_ret
  rw [Nat.zero_add] at hown6
  exact ⟨_, rfl, hown6, grown_below (grown_own (grown_of_below (Below.refl _ _) none) hgrow6 fun g e => .inl (hnil.lt g e).1)⟩
end Go.Proofs.YtjfgfoeenajneaaGreatDoor.Sg
namespace Go.Proofs.YtjfgfoeenajneaaGreatDoor.Sg
open Go.RowKit

set_option maxRecDepth 100000 in
set_option maxHeartbeats 4000000 in
theorem sameBytes_true (t : List Nat) (v1 v2 : Value) (w : World) (h1 : SlV w v1 t) (h2 : SlV w v2 t) (hx : ∀ x ∈ t, x < 256) (hn : t.length ≤ 1152921504606846976) :
    Calls Tryz.prog 30 #[v1, v2] w fun e w' => e = .returned (.bool true) ∧ Below w.heap.size w w' := by
  obtain ⟨A1, c1, rfl, hs1⟩ := h1
  obtain ⟨A2, c2, rfl, hs2⟩ := h2
  have HS := Lib.hid (And.intro hs1.2 hs2.2); clear hs1 hs2
  have hself : ((t.length : Int) != (t.length : Int)) = false := by simp
  obtain ⟨n, hnn⟩ : ∃ n, t.length = n := ⟨_, rfl⟩
  rw [hnn] at HS hself hn ⊢
  have HN := Lib.hid hnn; clear hnn
  go_enter Tryz.func30, Tryz.ntmps30
  go_upto_region 4 with fail
  go_loopw [5] (fun i wr => ∃ k : Nat, k ≤ n ∧ i = .int .i64 k ∧ Below w.heap.size w wr) (fun i _ => n - (intOf i).toNat)
  case atStart => exact ⟨0, by omega, rfl, Below.refl _ _⟩
  case round =>
    obtain ⟨k, hk, rfl, hb⟩ := hrel
    by_cases hlt : k < n
    · obtain ⟨b1, o1, rfl, hc1⟩ := HS.out.1 (by omega)
      obtain ⟨b2, o2, rfl, hc2⟩ := HS.out.2 (by omega)
      have hxk := hx (t.getD k 0) (getD_mem (by rw [HN.out]; exact hlt))
      have d1 : wr.cell? ⟨b1, o1 + k, none⟩ = some (.int .u8 (t.getD k 0 : Nat)) := below_cell hb ((hc1 k hlt).trans (u8s_get (by rw [HN.out]; exact hlt)))
      have d2 : wr.cell? ⟨b2, o2 + k, none⟩ = some (.int .u8 (t.getD k 0 : Nat)) := below_cell hb ((hc2 k hlt).trans (u8s_get (by rw [HN.out]; exact hlt)))
      clear hc1 hc2
      generalize t.getD k 0 = x at hxk d1 d2
      have hxx : ((x : Int) != (x : Int)) = false := by simp
      have hk0 : 0 ≤ (k : Int) := by omega
      have hkn : (k : Int) < (n : Int) := by omega
      have hI : (fun u : World => u.cell? ⟨b1, o1 + k, none⟩ = some (.int .u8 (x : Int)) ∧ u.cell? ⟨b2, o2 + k, none⟩ = some (.int .u8 (x : Int))) wr := ⟨d1, d2⟩
      go_upto_region 6 with fail
      refine Lex3.wp_region_lex [] (fun u : World => u.cell? ⟨b1, o1 + k, none⟩ = some (.int .u8 (x : Int)) ∧ u.cell? ⟨b2, o2 + k, none⟩ = some (.int .u8 (x : Int))) (fun u n h => h) hI (by kernel_rfl) (by kernel_rfl) ?_
      try simp only [Act.put, zA, zB, zC]
      iterate 3 (refine Lex3.run_free (v := ?_) (by rfl) (by rfl) (fun u => ?_) ?_; rotate_left; (go_simp; try with_reducible rfl); simp only [Act.put, zA, zB, zC])
      refine Lex3.run_load (v := ?_) (by rfl) (by rfl) (fun u hu => ?_) ?_; rotate_left; (obtain ⟨hu0, hu1⟩ := hu; go_simp; try with_reducible rfl); simp only [Act.put, zA, zB, zC]
      iterate 3 (refine Lex3.run_free (v := ?_) (by rfl) (by rfl) (fun u => ?_) ?_; rotate_left; (go_simp; try with_reducible rfl); simp only [Act.put, zA, zB, zC])
      refine Lex3.run_load (v := ?_) (by rfl) (by rfl) (fun u hu => ?_) ?_; rotate_left; (obtain ⟨hu0, hu1⟩ := hu; go_simp; try with_reducible rfl); simp only [Act.put, zA, zB, zC]
      refine Lex3.run_free (v := ?_) (by rfl) (by rfl) (fun u => ?_) ?_; rotate_left; (go_simp; try with_reducible rfl); simp only [Act.put, zA, zB, zC]

      refine Lex3.run_nil (fun n3 => ?_)
      have hb2 : Below w.heap.size w (wr.drew.drewN n3) := below_drewN (below_drewN hb 1) n3
      clear hb d1 d2 hI
      generalize wr.drew.drewN n3 = w2 at hb2 ⊢
      go_wp2_with fail
      go_roundw
      case rel => exact ⟨k + 1, by omega, by go_num, hb2⟩
      case measure => simp [intOf]; omega
    · obtain rfl : k = n := by omega
      go_wp2_with fail
      go_ret
      exact ⟨rfl, hb⟩
end Go.Proofs.YtjfgfoeenajneaaGreatDoor.Sg
