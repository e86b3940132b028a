/- The document's reading of a scan's header. -/
import Derived.Test.YtjfgfoeenajneaaGreatDoorGC9
import Derived.Test.YtjfgfoeenajneaaGreatDoorGC6
namespace Go.Proofs.YtjfgfoeenajneaaGreatDoor.Sg
open Go.RowKit

def ScanP (d : Nat) (l : List UInt8) (w : World) (e : Ending) (w' : World) : Prop :=
  w.grownBy w' (some d) ∧ if rsM l ≠ 0 then e = .returned (.tuple #[.slice none 0 0, .slice none 0 0, .int .i64 (rsM l : Nat)]) else
    ∃ v1 v2, e = .returned (.tuple #[v1, v2, .int .i64 0]) ∧ w'.ownsRow w.heap.size 5 1 v1 (psOf l).length (u8s ((psOf l).map (·.1))) ∧ w'.ownsRow w.heap.size 92 3 v2 (psOf l).length (((psOf l).map (·.2)).flatMap partC)
def badP (p : Nat × PartM) : Bool := decide (3 < p.2.dc ∨ 3 < p.2.ac)
theorem tail3 {L : List UInt8} (h : L.length = 3) : L = [0, 63, 0] ↔ nb L 0 = 0 ∧ nb L 1 = 63 ∧ nb L 2 = 0 := by
  match L, h with
  | [a, b, c], _ =>
    constructor
    · intro h
      injection h with h1 h
      injection h with h2 h
      injection h with h3 h
      subst h1 h2 h3
      exact ⟨rfl, rfl, rfl⟩
    · rintro ⟨h1, h2, h3⟩
      have e1 : a = 0 := by have h : a.toNat = 0 := h1; rw [← UInt8.ofNat_toNat (x := a), h]; rfl
      have e2 : b = 63 := by have h : b.toNat = 63 := h2; rw [← UInt8.ofNat_toNat (x := b), h]; rfl
      have e3 : c = 0 := by have h : c.toNat = 0 := h3; rw [← UInt8.ofNat_toNat (x := c), h]; rfl
      rw [e1, e2, e3]
theorem rs_len {l : List UInt8} (h : l.length ≠ 4 + 2 * nb l 0) : rsM l = 152 := by
  unfold rsM
  rw [if_pos (.inr h)]
theorem rs_else {l : List UInt8} (h : l.length = 4 + 2 * nb l 0) : rsM l = if nb l 0 < 1 ∨ 4 < nb l 0 ∨ l.drop (l.length - 3) ≠ [0, 63, 0] then 155 else if (psOf l).any badP then 155 else 0 := by
  unfold rsM
  have h0 : l ≠ [] := fun h1 => by
    have h2 : l.length = 0 := by rw [h1]; rfl
    omega
  rw [if_neg (fun h9 => h9.elim h0 (fun h1 => h1 h))]
  rfl
theorem ps_len {l : List UInt8} (h : l.length = 4 + 2 * nb l 0) : (psOf l).length = nb l 0 := by
  unfold psOf
  exact partsM_length _ _ (by rw [List.length_take, List.length_drop]; show min (2 * nb l 0) _ = _; omega)
theorem ps_at {l : List UInt8} (h : l.length = 4 + 2 * nb l 0) (k : Nat) (hk : k < nb l 0) : (psOf l)[k]? = some (nb (l.drop 1) (2 * k), ⟨0, nb (l.drop 1) (2 * k + 1) / 16, nb (l.drop 1) (2 * k + 1) % 16⟩) := by
  unfold psOf
  rw [partsM_at k _ (by rw [List.length_take, List.length_drop]; show 2 * k + 2 ≤ min (2 * nb l 0) _; omega)]
  have g : ∀ i, i < 2 * nb l 0 → nb ((l.drop 1).take (2 * lead l)) i = nb (l.drop 1) i := fun i hi => by
    unfold nb
    rw [List.getD_eq_getElem?_getD, List.getElem?_take, if_pos (by exact hi), ← List.getD_eq_getElem?_getD]
  rw [g _ (by omega), g _ (by omega)]
set_option maxRecDepth 100000 in
set_option maxHeartbeats 16000000 in
theorem scan_any (d : Nat) (l : List UInt8) (w : World) (hd : StrAt 123 w d l) (hl : l.length ≤ 4194304) :
    Calls Tryz.prog 60 #[.pointer (some ⟨d, 0, none⟩)] w (ScanP d l w) := by
  obtain ⟨ip, ip1, ip2, ip3, ip4⟩ := info_parts infoP3
  obtain ⟨zp, hzp⟩ : ∃ z, z = Value.agg #[.int .i64 0, .int .u8 0, .int .u8 0] := ⟨_, rfl⟩
  rw [← hzp] at ip2
  have ip5 : zp.cells.size = 3 := by rw [hzp]; rfl
  have IP := Lib.hid (And.intro ip1 (And.intro ip2 (And.intro ip3 (And.intro ip4 ip5)))); clear ip1 ip2 ip3 ip4 ip5 hzp
  obtain ⟨ib, ib1, ib2, ib3, ib4⟩ := info_parts infoB
  have IB := Lib.hid (And.intro ib1 (And.intro ib2 (And.intro ib3 ib4))); clear ib1 ib2 ib3 ib4
  have hdlt := hd.lt
  have c0 : w.cell? ⟨d, 0, none⟩ = some (.string (Bs l)) := by rw [hd.cell]; rfl
  have hz := Bs_size l
  go_enter Tryz.func60, Tryz.ntmps60
  go_wp2_with fail
  refine (one_any d l w hd (by omega)).mono ?_
  rintro e w1 ⟨rfl, hd1, hg1⟩
  clear c0 hz hd
  have hnb := nb_lt l 0
  obtain ⟨n, hn⟩ : ∃ n, l.length = n := ⟨_, rfl⟩
  have hfin0 : ∀ (w' : World) c, rsM l = c → c ≠ 0 → w.grownBy w' (some d) → ScanP d l w (.returned (.tuple #[.slice none 0 0, .slice none 0 0, .int .i64 (c : Nat)])) w' := fun w' c hc h0 hg => by
    unfold ScanP
    rw [hc, if_pos h0]
    exact ⟨hg, rfl⟩
  have HFIN := Lib.hid hfin0; clear hfin0
  by_cases h1 : l.length = 4 + 2 * nb l 0
  case neg =>
    have HR := Lib.hid (rs_len h1)
    rw [hn] at h1 hl ⊢
    generalize nb l 0 = c at h1 hnb ⊢
    have hw1 : IntKind.i64.wrap (2 * (c : Int)) = 2 * (c : Int) := IntWalk.i64_in _ (by omega)
    have hw2 : IntKind.i64.wrap (4 + 2 * (c : Int)) = 4 + 2 * (c : Int) := IntWalk.i64_in _ (by omega)
    have hne : ((n : Int) != 4 + 2 * (c : Int)) = true := by simp; omega
    have hnc : ¬ (n : Int) = 4 + 2 * (c : Int) := by omega
    clear h1 hn
    go_wp2_with fail
    go_ret3
    exact HFIN.out w1 152 HR.out (by decide) hg1
  have hre := rs_else h1
  have hpl := ps_len h1
  have hpa := ps_at h1
  obtain ⟨m, hm⟩ : ∃ m, l.drop 1 = m := ⟨_, rfl⟩
  have hml : m.length = 3 + 2 * nb l 0 := by rw [← hm, List.length_drop]; omega
  have htl : l.drop (l.length - 3) = m.drop (2 * nb l 0) := by rw [← hm, List.drop_drop]; congr 1; omega
  rw [hm] at hpa hd1
  rw [htl] at hre
  clear htl hm
  rw [hn] at h1 hl ⊢
  have HP : Hid (∀ w' v1 v2, rsM l = 0 → w.grownBy w' (some d) → w'.ownsRow w.heap.size 5 1 v1 (psOf l).length (u8s ((psOf l).map (·.1))) → w'.ownsRow w.heap.size 92 3 v2 (psOf l).length (((psOf l).map (·.2)).flatMap partC) → ScanP d l w (.returned (.tuple #[v1, v2, .int .i64 0])) w') := Lib.hid fun w' v1 v2 h0 hg a b => by
    unfold ScanP
    rw [h0, if_neg (by simp)]
    exact ⟨hg, v1, v2, rfl, a, b⟩
  generalize psOf l = ps at hre hpl hpa HP
  generalize nb l 0 = c at h1 hnb hre hpl hpa hml ⊢
  have HRE := Lib.hid (And.intro hre (And.intro hpl (And.intro hpa hml))); clear hre hpl hpa hn
  have hw1 : IntKind.i64.wrap (2 * (c : Int)) = 2 * (c : Int) := IntWalk.i64_in _ (by omega)
  have hw2 : IntKind.i64.wrap (4 + 2 * (c : Int)) = 4 + 2 * (c : Int) := IntWalk.i64_in _ (by omega)
  have hne : ((n : Int) != 4 + 2 * (c : Int)) = false := by simp; omega
  have hnc : (n : Int) = 4 + 2 * (c : Int) := by omega
  have HNC := Lib.hid (And.intro h1 hnc); clear h1 hnc
  by_cases hc1 : c < 1
  · have hi1 : (c : Int) < 1 := by omega
    have hB : Hid ((decide (c < 1) || decide (4 < c)) = true) := Lib.hid (by simp [hc1])
    clear hc1
    go_upto_region 9 with fail
    have hstart : w1.ownsRow w.heap.size 5 1 nilS 0 [] ∧ w1.ownsRow w.heap.size 92 3 nilS 0 [] := ⟨World.ownsRow_nil _ _ _ _, World.ownsRow_nil _ _ _ _⟩
    go_loopw [10, 9, 7, 8] (fun i bd v1 v2 wr => ∃ (k : Nat) (bb : Bool), k ≤ c ∧ i = .int .i64 k ∧ bd = .bool bb ∧ bb = (true || (ps.take k).any badP) ∧ wr.ownsRow w.heap.size 5 1 v1 k (u8s ((ps.take k).map (·.1))) ∧ wr.ownsRow w.heap.size 92 3 v2 k (((ps.take k).map (·.2)).flatMap partC) ∧ StrAt 123 wr d (m.drop (2 * k)) ∧ w.grownBy wr (some d)) (fun i _ _ _ _ => c - (intOf i).toNat)
    case atStart => exact ⟨0, true, by omega, rfl, (by first | rfl | simp [hi1, hi4]), by simp, hstart.1, hstart.2, by simpa using hd1, hg1⟩
    clear hstart hd1 hg1
    case round =>
      obtain ⟨k, bb, hk, rfl, rfl, hbb, ho1, ho2, hD, hG⟩ := hrel
      have HbB := Lib.hid hbb; clear hbb
      by_cases hlt : k < c
      · exact absurd hlt (by omega)
      · obtain rfl : k = c := by omega
        have htake : ps.take k = ps := List.take_of_length_le (by rw [HRE.out.2.1]; omega)
        rw [htake] at ho1 ho2
        have hbb := HbB.out
        rw [htake] at hbb
        have HbC := Lib.hid hbb; clear hbb HbB htake hlt hk
        have HO := Lib.hid (And.intro ho1 ho2)
        obtain ⟨A1, k1, rfl⟩ := own_slice ho1
        obtain ⟨A2, k2, rfl⟩ := own_slice ho2
        clear ho1 ho2
        have hl1 := nb_lt m (2 * k)
        have hl2 := nb_lt m (2 * k + 1)
        have hl3 := nb_lt m (2 * k + 1 + 1)
        go_wp2_with fail
        refine (one_any d (m.drop (2 * k)) wr hD (by rw [List.length_drop, HRE.out.2.2.2]; omega)).mono ?_
        rintro e w2 ⟨rfl, hD2, hg2⟩
        rw [nb_drop, Nat.add_zero]
        rw [List.drop_drop] at hD2
        go_wp2_with fail
        refine (one_any d (m.drop (2 * k + 1)) w2 hD2 (by rw [List.length_drop, HRE.out.2.2.2]; omega)).mono ?_
        rintro e w3 ⟨rfl, hD3, hg3⟩
        rw [nb_drop, Nat.add_zero]
        rw [List.drop_drop] at hD3
        go_wp2_with fail
        refine (one_any d (m.drop (2 * k + 1 + 1)) w3 hD3 (by rw [List.length_drop, HRE.out.2.2.2]; omega)).mono ?_
        rintro e w4 ⟨rfl, _, hg4⟩
        rw [nb_drop, Nat.add_zero]
        have hg24 := grown_after (grown_after hg2 hg3) hg4
        have hG4 := grown_after hG hg24
        have ho1 := own_grown HO.out.1 hg24 (.inr fun e => by have := (HO.out.1.lt d e).1; omega)
        have ho2 := own_grown HO.out.2 hg24 (.inr fun e => by have := (HO.out.2.lt d e).1; omega)
        have ht3 := tail3 (L := m.drop (2 * k)) (by rw [List.length_drop, HRE.out.2.2.2]; omega)
        rw [nb_drop, nb_drop, nb_drop] at ht3
        have HT3 := Lib.hid ht3
        have HX := Lib.hid (And.intro hG4 (And.intro ho1 ho2)); clear ht3 hG4 ho1 ho2 hD hD2 hD3 hg2 hg3 hg4 hg24 hG HO
        rw [Nat.add_zero, show 2 * k + 2 = 2 * k + 1 + 1 from rfl] at HT3
        generalize nb m (2 * k) = a at hl1 HT3 ⊢
        generalize nb m (2 * k + 1) = b at hl2 HT3 ⊢
        generalize nb m (2 * k + 1 + 1) = cc at hl3 HT3 ⊢
        cases bb with
        | true =>
          have hres : rsM l = 155 := by
            have h1 := HbC.out
            have h2 := hB.out
            rw [HRE.out.1]
            by_cases h3 : k < 1 ∨ 4 < k ∨ m.drop (2 * k) ≠ [0, 63, 0]
            · rw [if_pos h3]
            · rw [if_neg h3, if_pos]
              have h4 : (decide (k < 1) || decide (4 < k)) = false := by simp; omega
              first | exact absurd (h4.symm.trans h2) (by decide) | (rw [Bool.false_or] at h1; exact h1.symm)
          have HR := Lib.hid hres; clear hres
          go_wp2_with fail
          go_ret3
          exact HFIN.out w4 155 HR.out (by decide) HX.out.1
        | false => exact absurd HbC.out (by simp)
  by_cases hc4 : 4 < c
  · have hi1 : ¬ (c : Int) < 1 := by omega
    have hi4 : 4 < (c : Int) := by omega
    have hB : Hid ((decide (c < 1) || decide (4 < c)) = true) := Lib.hid (by simp [hc4])
    clear hc1 hc4
    go_upto_region 9 with fail
    have hstart : w1.ownsRow w.heap.size 5 1 nilS 0 [] ∧ w1.ownsRow w.heap.size 92 3 nilS 0 [] := ⟨World.ownsRow_nil _ _ _ _, World.ownsRow_nil _ _ _ _⟩
    go_loopw [10, 9, 7, 8] (fun i bd v1 v2 wr => ∃ (k : Nat) (bb : Bool), k ≤ c ∧ i = .int .i64 k ∧ bd = .bool bb ∧ bb = (true || (ps.take k).any badP) ∧ wr.ownsRow w.heap.size 5 1 v1 k (u8s ((ps.take k).map (·.1))) ∧ wr.ownsRow w.heap.size 92 3 v2 k (((ps.take k).map (·.2)).flatMap partC) ∧ StrAt 123 wr d (m.drop (2 * k)) ∧ w.grownBy wr (some d)) (fun i _ _ _ _ => c - (intOf i).toNat)
    case atStart => exact ⟨0, true, by omega, rfl, (by first | rfl | simp [hi1, hi4]), by simp, hstart.1, hstart.2, by simpa using hd1, hg1⟩
    clear hstart hd1 hg1
    case round =>
      obtain ⟨k, bb, hk, rfl, rfl, hbb, ho1, ho2, hD, hG⟩ := hrel
      have HbB := Lib.hid hbb; clear hbb
      by_cases hlt : k < c
      · obtain ⟨A1, k1, rfl⟩ := own_slice ho1
        obtain ⟨A2, k2, rfl⟩ := own_slice ho2
        have hat := HRE.out.2.2.1 k hlt
        have hl1 := nb_lt m (2 * k)
        have hl2 := nb_lt m (2 * k + 1)
        have HO := Lib.hid (And.intro ho1 ho2); clear ho1 ho2
        go_wp2_with fail
        refine (one_any d (m.drop (2 * k)) wr hD (by rw [List.length_drop, HRE.out.2.2.2]; omega)).mono ?_
        rintro e w2 ⟨rfl, hD2, hg2⟩
        rw [nb_drop, Nat.add_zero]
        rw [List.drop_drop] at hD2
        go_wp2_with fail
        refine (one_any d (m.drop (2 * k + 1)) w2 hD2 (by rw [List.length_drop, HRE.out.2.2.2]; omega)).mono ?_
        rintro e w3 ⟨rfl, hD3, hg3⟩
        rw [nb_drop, Nat.add_zero]
        rw [List.drop_drop] at hD3
        have hg23 := grown_after hg2 hg3
        have hG3 := grown_after hG hg23
        have hdo : ∀ g, (Value.slice A1 k k1).ownBlock = some g → g ≠ d := fun g hg e => by have := (HO.out.1.lt g hg).1; omega
        have hdo2 : ∀ g, (Value.slice A2 k k2).ownBlock = some g → g ≠ d := fun g hg e => by have := (HO.out.2.lt g hg).1; omega
        have ho1 := own_grown HO.out.1 hg23 (.inr fun e => hdo d e rfl)
        have ho2 := own_grown HO.out.2 hg23 (.inr fun e => hdo2 d e rfl)
        clear hD hD2 hg2 hg3 hg23 hG HO
        generalize nb m (2 * k) = a at hat hl1 ⊢
        generalize nb m (2 * k + 1) = b at hat hl2 ⊢
        obtain ⟨bh, hbh⟩ : ∃ x, b / 16 = x := ⟨_, rfl⟩
        obtain ⟨bl, hbl⟩ : ∃ x, b % 16 = x := ⟨_, rfl⟩
        rw [hbh, hbl] at hat
        have g1 : (b : Int) / 16 = (bh : Int) := by omega
        have g2 : (b : Int) % 16 = (bl : Int) := by omega
        have gh : bh < 16 := by omega
        have gl : bl < 16 := by omega
        have hnx := take_next hat
        have HNX := Lib.hid (And.intro hnx hbh); clear hnx hat hbh hbl
        have hb0 : 0 ≤ (b : Int) := by omega
        -- the number
        have hal : Below w3.heap.size w3 (w3.alloc (.cells #[.int .u8 (a : Int)] 5)) := (Below.refl _ _).alloc (Nat.le_refl _) _
        have hn5 := Blk.new w3 5 #[.int .u8 (a : Int)]
        have HO5 := Lib.hid (And.intro (own_kept ho1 hal) (own_kept ho2 hal))
        have HR5 := Lib.hid (show Rows 1 (w3.alloc (.cells #[.int .u8 (a : Int)] 5)) (some ⟨w3.heap.size, 0, none⟩) 1 [.int .u8 (a : Int)] from ⟨rfl, fun _ => ⟨_, 0, rfl, fun j hj => by rw [hn5.cell, Nat.zero_add]; simp⟩⟩)
        have HD5 := Lib.hid (show StrAt 123 (w3.alloc (.cells #[.int .u8 (a : Int)] 5)) d (m.drop (2 * k + 1 + 1)) from Blk.kept hD3 hal)
        have hG5 := Lib.hid (grown_alloc hG3 (.cells #[.int .u8 (a : Int)] 5))
        have hbs : w.heap.size ≤ (w3.alloc (.cells #[.int .u8 (a : Int)] 5)).heap.size := Nat.le_trans hG3.size hal.size
        have hks : k ≤ 255 := by omega
        clear hn5 hal ho1 ho2 hD3 hG3
        go_upto_region 14 with (at_builtin; refine wpList_append_rows rfl (.tmp 43) (.tmp 46) 29 rfl w.heap.size 5 ib (.int .u8 0) 1 1 Tryz.underlying29 IB.out.1 IB.out.2.1 IB.out.2.2.1 IB.out.2.2.2 rfl (by decide) (.slice A1 k k1) k (u8s ((ps.take k).map (·.1))) rfl HO5.out.1 (some ⟨w3.heap.size, 0, none⟩) 1 1 [.int .u8 (a : Int)] rfl HR5.out (by intro u hu; simp at hu; rw [hu]; rfl) (by unfold maxLen; omega) (by omega) hbs ?_; intro v6 w6 hown6 hgr6 hat6)
        have ho6 : w6.ownsRow w.heap.size 92 3 (.slice A2 k k2) k (((ps.take k).map (·.2)).flatMap partC) := own_beside HO5.out.2 HO5.out.1 (by decide) hgr6
        have hD6 : StrAt 123 w6 d (m.drop (2 * k + 1 + 1)) := HD5.out.grown hgr6 (fun e => by have := (HO5.out.1.lt d e.symm).1; omega)
        have hG6 : w.grownBy w6 (some d) := grown_own hG5.out hgr6 fun g hg => .inl (HO5.out.1.lt g hg).1
        have hown6' : w6.ownsRow w.heap.size 5 1 v6 (k + 1) (u8s ((ps.take (k + 1)).map (·.1))) := by
          rw [HNX.out.1, List.map_append, u8s_append]
          exact hown6
        have hbs6 : w.heap.size ≤ w6.heap.size := hG6.size
        clear HO5 HR5 HD5 hG5 hbs hown6 hgr6 hat6
        -- the tables' numbers
        have hal : Below w6.heap.size w6 (w6.alloc (.cells #[.int .i64 0, .int .u8 (bh : Int), .int .u8 (bl : Int)] 92)) := (Below.refl _ _).alloc (Nat.le_refl _) _
        have hn5 := Blk.new w6 92 #[.int .i64 0, .int .u8 (bh : Int), .int .u8 (bl : Int)]
        have HO7 := Lib.hid (And.intro (own_kept hown6' hal) (own_kept ho6 hal))
        have HR7 := Lib.hid (show Rows 3 (w6.alloc (.cells #[.int .i64 0, .int .u8 (bh : Int), .int .u8 (bl : Int)] 92)) (some ⟨w6.heap.size, 0, none⟩) 1 [.int .i64 0, .int .u8 (bh : Int), .int .u8 (bl : Int)] from ⟨rfl, fun _ => ⟨_, 0, rfl, fun j hj => by rw [hn5.cell, Nat.zero_add]; simp⟩⟩)
        have HD7 := Lib.hid (show StrAt 123 (w6.alloc (.cells #[.int .i64 0, .int .u8 (bh : Int), .int .u8 (bl : Int)] 92)) d (m.drop (2 * k + 1 + 1)) from Blk.kept hD6 hal)
        have hG7 := Lib.hid (grown_alloc hG6 (.cells #[.int .i64 0, .int .u8 (bh : Int), .int .u8 (bl : Int)] 92))
        have hbs : w.heap.size ≤ (w6.alloc (.cells #[.int .i64 0, .int .u8 (bh : Int), .int .u8 (bl : Int)] 92)).heap.size := Nat.le_trans hbs6 hal.size
        clear hn5 hal hown6' ho6 hD6 hG6 hbs6
        go_upto_region 15 with (first | (refine wpList_buildOne rfl 28 92 _ rfl #[.int .i64 0, .int .u8 (bh : Int), .int .u8 (bl : Int)] rfl ip zp 3 Tryz.underlying28 IP.out.1 IP.out.2.1 IP.out.2.2.1 rfl (by decide) (by decide) ?_) | (at_builtin; refine wpList_append_rows rfl (.tmp 48) (.tmp 56) 28 rfl w.heap.size 92 ip zp 3 16 Tryz.underlying28 IP.out.1 IP.out.2.1 IP.out.2.2.1 IP.out.2.2.2.1 IP.out.2.2.2.2 (by decide) (.slice A2 k k2) k (((ps.take k).map (·.2)).flatMap partC) rfl HO7.out.2 (some ⟨w6.heap.size, 0, none⟩) 1 1 [.int .i64 0, .int .u8 (bh : Int), .int .u8 (bl : Int)] rfl HR7.out (by intro u hu; simp at hu; rcases hu with rfl | rfl | rfl <;> rfl) (by unfold maxLen; omega) (by omega) hbs ?_; intro v8 w8 hown8 hgr8 hat8))
        have ho8 : w8.ownsRow w.heap.size 5 1 v6 (k + 1) (u8s ((ps.take (k + 1)).map (·.1))) := own_beside HO7.out.1 HO7.out.2 (by decide) hgr8
        have hD8 : StrAt 123 w8 d (m.drop (2 * (k + 1))) := HD7.out.grown hgr8 (fun e => by have := (HO7.out.2.lt d e.symm).1; omega)
        have hG8 : w.grownBy w8 (some d) := grown_own hG7.out hgr8 fun g hg => .inl (HO7.out.2.lt g hg).1
        have hown8' : w8.ownsRow w.heap.size 92 3 v8 (k + 1) (((ps.take (k + 1)).map (·.2)).flatMap partC) := by
          rw [HNX.out.1, List.map_append, List.flatMap_append]
          exact hown8
        have hany : (ps.take (k + 1)).any badP = ((ps.take k).any badP || decide (3 < bh ∨ 3 < bl)) := by rw [HNX.out.1, List.any_append]; simp [badP]
        have HF := Lib.hid (And.intro ho8 (And.intro hown8' (And.intro hD8 (And.intro hG8 hany)))); clear HO7 HR7 HD7 hG7 hbs hown8 hgr8 hat8 ho8 hown8' hD8 hG8 hany
        cases bb with
        | true =>
          go_wp2_with fail
          go_roundw
          case rel => exact ⟨k + 1, true, by omega, by go_num, rfl, by rw [HF.out.2.2.2.2, ← Bool.or_assoc, ← HbB.out, Bool.true_or], HF.out.1, HF.out.2.1, HF.out.2.2.1, HF.out.2.2.2.1⟩
          case measure => simp [intOf]; omega
        | false =>
          by_cases hh : 3 < bh
          · have hhi : 3 < (bh : Int) := by omega
            have HH := Lib.hid hh; clear hh
            go_wp2_with fail
            go_roundw
            case rel => exact ⟨k + 1, true, by omega, by go_num, rfl, by rw [HF.out.2.2.2.2, ← Bool.or_assoc, ← HbB.out, decide_eq_true (.inl HH.out)]; rfl, HF.out.1, HF.out.2.1, HF.out.2.2.1, HF.out.2.2.2.1⟩
            case measure => simp [intOf]; omega
          by_cases hq : 3 < bl
          · have hhi : ¬ 3 < (bh : Int) := by omega
            have hqi : 3 < (bl : Int) := by omega
            have HH := Lib.hid hq; clear hq hh
            go_wp2_with fail
            go_roundw
            case rel => exact ⟨k + 1, true, by omega, by go_num, rfl, by rw [HF.out.2.2.2.2, ← Bool.or_assoc, ← HbB.out, decide_eq_true (.inr HH.out)]; rfl, HF.out.1, HF.out.2.1, HF.out.2.2.1, HF.out.2.2.2.1⟩
            case measure => simp [intOf]; omega
          · have hhi : ¬ 3 < (bh : Int) := by omega
            have hqi : ¬ 3 < (bl : Int) := by omega
            have HH := Lib.hid (show ¬ (3 < bh ∨ 3 < bl) by omega); clear hq hh
            go_wp2_with fail
            go_roundw
            case rel => exact ⟨k + 1, false, by omega, by go_num, rfl, by rw [HF.out.2.2.2.2, ← Bool.or_assoc, ← HbB.out, decide_eq_false HH.out]; rfl, HF.out.1, HF.out.2.1, HF.out.2.2.1, HF.out.2.2.2.1⟩
            case measure => simp [intOf]; omega
      · obtain rfl : k = c := by omega
        have htake : ps.take k = ps := List.take_of_length_le (by rw [HRE.out.2.1]; omega)
        rw [htake] at ho1 ho2
        have hbb := HbB.out
        rw [htake] at hbb
        have HbC := Lib.hid hbb; clear hbb HbB htake hlt hk
        have HO := Lib.hid (And.intro ho1 ho2)
        obtain ⟨A1, k1, rfl⟩ := own_slice ho1
        obtain ⟨A2, k2, rfl⟩ := own_slice ho2
        clear ho1 ho2
        have hl1 := nb_lt m (2 * k)
        have hl2 := nb_lt m (2 * k + 1)
        have hl3 := nb_lt m (2 * k + 1 + 1)
        go_wp2_with fail
        refine (one_any d (m.drop (2 * k)) wr hD (by rw [List.length_drop, HRE.out.2.2.2]; omega)).mono ?_
        rintro e w2 ⟨rfl, hD2, hg2⟩
        rw [nb_drop, Nat.add_zero]
        rw [List.drop_drop] at hD2
        go_wp2_with fail
        refine (one_any d (m.drop (2 * k + 1)) w2 hD2 (by rw [List.length_drop, HRE.out.2.2.2]; omega)).mono ?_
        rintro e w3 ⟨rfl, hD3, hg3⟩
        rw [nb_drop, Nat.add_zero]
        rw [List.drop_drop] at hD3
        go_wp2_with fail
        refine (one_any d (m.drop (2 * k + 1 + 1)) w3 hD3 (by rw [List.length_drop, HRE.out.2.2.2]; omega)).mono ?_
        rintro e w4 ⟨rfl, _, hg4⟩
        rw [nb_drop, Nat.add_zero]
        have hg24 := grown_after (grown_after hg2 hg3) hg4
        have hG4 := grown_after hG hg24
        have ho1 := own_grown HO.out.1 hg24 (.inr fun e => by have := (HO.out.1.lt d e).1; omega)
        have ho2 := own_grown HO.out.2 hg24 (.inr fun e => by have := (HO.out.2.lt d e).1; omega)
        have ht3 := tail3 (L := m.drop (2 * k)) (by rw [List.length_drop, HRE.out.2.2.2]; omega)
        rw [nb_drop, nb_drop, nb_drop] at ht3
        have HT3 := Lib.hid ht3
        have HX := Lib.hid (And.intro hG4 (And.intro ho1 ho2)); clear ht3 hG4 ho1 ho2 hD hD2 hD3 hg2 hg3 hg4 hg24 hG HO
        rw [Nat.add_zero, show 2 * k + 2 = 2 * k + 1 + 1 from rfl] at HT3
        generalize nb m (2 * k) = a at hl1 HT3 ⊢
        generalize nb m (2 * k + 1) = b at hl2 HT3 ⊢
        generalize nb m (2 * k + 1 + 1) = cc at hl3 HT3 ⊢
        cases bb with
        | true =>
          have hres : rsM l = 155 := by
            have h1 := HbC.out
            have h2 := hB.out
            rw [HRE.out.1]
            by_cases h3 : k < 1 ∨ 4 < k ∨ m.drop (2 * k) ≠ [0, 63, 0]
            · rw [if_pos h3]
            · rw [if_neg h3, if_pos]
              have h4 : (decide (k < 1) || decide (4 < k)) = false := by simp; omega
              first | exact absurd (h4.symm.trans h2) (by decide) | (rw [Bool.false_or] at h1; exact h1.symm)
          have HR := Lib.hid hres; clear hres
          go_wp2_with fail
          go_ret3
          exact HFIN.out w4 155 HR.out (by decide) HX.out.1
        | false => exact absurd HbC.out (by simp)
  have hi1 : ¬ (c : Int) < 1 := by omega
  have hi4 : ¬ 4 < (c : Int) := by omega
  have hB : Hid ((decide (c < 1) || decide (4 < c)) = false) := Lib.hid (by simp [hc1, hc4])
  clear hc1 hc4
  go_upto_region 9 with fail
  have hstart : w1.ownsRow w.heap.size 5 1 nilS 0 [] ∧ w1.ownsRow w.heap.size 92 3 nilS 0 [] := ⟨World.ownsRow_nil _ _ _ _, World.ownsRow_nil _ _ _ _⟩
  go_loopw [10, 9, 7, 8] (fun i bd v1 v2 wr => ∃ (k : Nat) (bb : Bool), k ≤ c ∧ i = .int .i64 k ∧ bd = .bool bb ∧ bb = (false || (ps.take k).any badP) ∧ wr.ownsRow w.heap.size 5 1 v1 k (u8s ((ps.take k).map (·.1))) ∧ wr.ownsRow w.heap.size 92 3 v2 k (((ps.take k).map (·.2)).flatMap partC) ∧ StrAt 123 wr d (m.drop (2 * k)) ∧ w.grownBy wr (some d)) (fun i _ _ _ _ => c - (intOf i).toNat)
  case atStart => exact ⟨0, false, by omega, rfl, (by first | rfl | simp [hi1, hi4]), by simp, hstart.1, hstart.2, by simpa using hd1, hg1⟩
  clear hstart hd1 hg1
  case round =>
    obtain ⟨k, bb, hk, rfl, rfl, hbb, ho1, ho2, hD, hG⟩ := hrel
    have HbB := Lib.hid hbb; clear hbb
    by_cases hlt : k < c
    · obtain ⟨A1, k1, rfl⟩ := own_slice ho1
      obtain ⟨A2, k2, rfl⟩ := own_slice ho2
      have hat := HRE.out.2.2.1 k hlt
      have hl1 := nb_lt m (2 * k)
      have hl2 := nb_lt m (2 * k + 1)
      have HO := Lib.hid (And.intro ho1 ho2); clear ho1 ho2
      go_wp2_with fail
      refine (one_any d (m.drop (2 * k)) wr hD (by rw [List.length_drop, HRE.out.2.2.2]; omega)).mono ?_
      rintro e w2 ⟨rfl, hD2, hg2⟩
      rw [nb_drop, Nat.add_zero]
      rw [List.drop_drop] at hD2
      go_wp2_with fail
      refine (one_any d (m.drop (2 * k + 1)) w2 hD2 (by rw [List.length_drop, HRE.out.2.2.2]; omega)).mono ?_
      rintro e w3 ⟨rfl, hD3, hg3⟩
      rw [nb_drop, Nat.add_zero]
      rw [List.drop_drop] at hD3
      have hg23 := grown_after hg2 hg3
      have hG3 := grown_after hG hg23
      have hdo : ∀ g, (Value.slice A1 k k1).ownBlock = some g → g ≠ d := fun g hg e => by have := (HO.out.1.lt g hg).1; omega
      have hdo2 : ∀ g, (Value.slice A2 k k2).ownBlock = some g → g ≠ d := fun g hg e => by have := (HO.out.2.lt g hg).1; omega
      have ho1 := own_grown HO.out.1 hg23 (.inr fun e => hdo d e rfl)
      have ho2 := own_grown HO.out.2 hg23 (.inr fun e => hdo2 d e rfl)
      clear hD hD2 hg2 hg3 hg23 hG HO
      generalize nb m (2 * k) = a at hat hl1 ⊢
      generalize nb m (2 * k + 1) = b at hat hl2 ⊢
      obtain ⟨bh, hbh⟩ : ∃ x, b / 16 = x := ⟨_, rfl⟩
      obtain ⟨bl, hbl⟩ : ∃ x, b % 16 = x := ⟨_, rfl⟩
      rw [hbh, hbl] at hat
      have g1 : (b : Int) / 16 = (bh : Int) := by omega
      have g2 : (b : Int) % 16 = (bl : Int) := by omega
      have gh : bh < 16 := by omega
      have gl : bl < 16 := by omega
      have hnx := take_next hat
      have HNX := Lib.hid (And.intro hnx hbh); clear hnx hat hbh hbl
      have hb0 : 0 ≤ (b : Int) := by omega
      -- the number
      have hal : Below w3.heap.size w3 (w3.alloc (.cells #[.int .u8 (a : Int)] 5)) := (Below.refl _ _).alloc (Nat.le_refl _) _
      have hn5 := Blk.new w3 5 #[.int .u8 (a : Int)]
      have HO5 := Lib.hid (And.intro (own_kept ho1 hal) (own_kept ho2 hal))
      have HR5 := Lib.hid (show Rows 1 (w3.alloc (.cells #[.int .u8 (a : Int)] 5)) (some ⟨w3.heap.size, 0, none⟩) 1 [.int .u8 (a : Int)] from ⟨rfl, fun _ => ⟨_, 0, rfl, fun j hj => by rw [hn5.cell, Nat.zero_add]; simp⟩⟩)
      have HD5 := Lib.hid (show StrAt 123 (w3.alloc (.cells #[.int .u8 (a : Int)] 5)) d (m.drop (2 * k + 1 + 1)) from Blk.kept hD3 hal)
      have hG5 := Lib.hid (grown_alloc hG3 (.cells #[.int .u8 (a : Int)] 5))
      have hbs : w.heap.size ≤ (w3.alloc (.cells #[.int .u8 (a : Int)] 5)).heap.size := Nat.le_trans hG3.size hal.size
      have hks : k ≤ 255 := by omega
      clear hn5 hal ho1 ho2 hD3 hG3
      go_upto_region 14 with (at_builtin; refine wpList_append_rows rfl (.tmp 43) (.tmp 46) 29 rfl w.heap.size 5 ib (.int .u8 0) 1 1 Tryz.underlying29 IB.out.1 IB.out.2.1 IB.out.2.2.1 IB.out.2.2.2 rfl (by decide) (.slice A1 k k1) k (u8s ((ps.take k).map (·.1))) rfl HO5.out.1 (some ⟨w3.heap.size, 0, none⟩) 1 1 [.int .u8 (a : Int)] rfl HR5.out (by intro u hu; simp at hu; rw [hu]; rfl) (by unfold maxLen; omega) (by omega) hbs ?_; intro v6 w6 hown6 hgr6 hat6)
      have ho6 : w6.ownsRow w.heap.size 92 3 (.slice A2 k k2) k (((ps.take k).map (·.2)).flatMap partC) := own_beside HO5.out.2 HO5.out.1 (by decide) hgr6
      have hD6 : StrAt 123 w6 d (m.drop (2 * k + 1 + 1)) := HD5.out.grown hgr6 (fun e => by have := (HO5.out.1.lt d e.symm).1; omega)
      have hG6 : w.grownBy w6 (some d) := grown_own hG5.out hgr6 fun g hg => .inl (HO5.out.1.lt g hg).1
      have hown6' : w6.ownsRow w.heap.size 5 1 v6 (k + 1) (u8s ((ps.take (k + 1)).map (·.1))) := by
        rw [HNX.out.1, List.map_append, u8s_append]
        exact hown6
      have hbs6 : w.heap.size ≤ w6.heap.size := hG6.size
      clear HO5 HR5 HD5 hG5 hbs hown6 hgr6 hat6
      -- the tables' numbers
      have hal : Below w6.heap.size w6 (w6.alloc (.cells #[.int .i64 0, .int .u8 (bh : Int), .int .u8 (bl : Int)] 92)) := (Below.refl _ _).alloc (Nat.le_refl _) _
      have hn5 := Blk.new w6 92 #[.int .i64 0, .int .u8 (bh : Int), .int .u8 (bl : Int)]
      have HO7 := Lib.hid (And.intro (own_kept hown6' hal) (own_kept ho6 hal))
      have HR7 := Lib.hid (show Rows 3 (w6.alloc (.cells #[.int .i64 0, .int .u8 (bh : Int), .int .u8 (bl : Int)] 92)) (some ⟨w6.heap.size, 0, none⟩) 1 [.int .i64 0, .int .u8 (bh : Int), .int .u8 (bl : Int)] from ⟨rfl, fun _ => ⟨_, 0, rfl, fun j hj => by rw [hn5.cell, Nat.zero_add]; simp⟩⟩)
      have HD7 := Lib.hid (show StrAt 123 (w6.alloc (.cells #[.int .i64 0, .int .u8 (bh : Int), .int .u8 (bl : Int)] 92)) d (m.drop (2 * k + 1 + 1)) from Blk.kept hD6 hal)
      have hG7 := Lib.hid (grown_alloc hG6 (.cells #[.int .i64 0, .int .u8 (bh : Int), .int .u8 (bl : Int)] 92))
      have hbs : w.heap.size ≤ (w6.alloc (.cells #[.int .i64 0, .int .u8 (bh : Int), .int .u8 (bl : Int)] 92)).heap.size := Nat.le_trans hbs6 hal.size
      clear hn5 hal hown6' ho6 hD6 hG6 hbs6
      go_upto_region 15 with (first | (refine wpList_buildOne rfl 28 92 _ rfl #[.int .i64 0, .int .u8 (bh : Int), .int .u8 (bl : Int)] rfl ip zp 3 Tryz.underlying28 IP.out.1 IP.out.2.1 IP.out.2.2.1 rfl (by decide) (by decide) ?_) | (at_builtin; refine wpList_append_rows rfl (.tmp 48) (.tmp 56) 28 rfl w.heap.size 92 ip zp 3 16 Tryz.underlying28 IP.out.1 IP.out.2.1 IP.out.2.2.1 IP.out.2.2.2.1 IP.out.2.2.2.2 (by decide) (.slice A2 k k2) k (((ps.take k).map (·.2)).flatMap partC) rfl HO7.out.2 (some ⟨w6.heap.size, 0, none⟩) 1 1 [.int .i64 0, .int .u8 (bh : Int), .int .u8 (bl : Int)] rfl HR7.out (by intro u hu; simp at hu; rcases hu with rfl | rfl | rfl <;> rfl) (by unfold maxLen; omega) (by omega) hbs ?_; intro v8 w8 hown8 hgr8 hat8))
      have ho8 : w8.ownsRow w.heap.size 5 1 v6 (k + 1) (u8s ((ps.take (k + 1)).map (·.1))) := own_beside HO7.out.1 HO7.out.2 (by decide) hgr8
      have hD8 : StrAt 123 w8 d (m.drop (2 * (k + 1))) := HD7.out.grown hgr8 (fun e => by have := (HO7.out.2.lt d e.symm).1; omega)
      have hG8 : w.grownBy w8 (some d) := grown_own hG7.out hgr8 fun g hg => .inl (HO7.out.2.lt g hg).1
      have hown8' : w8.ownsRow w.heap.size 92 3 v8 (k + 1) (((ps.take (k + 1)).map (·.2)).flatMap partC) := by
        rw [HNX.out.1, List.map_append, List.flatMap_append]
        exact hown8
      have hany : (ps.take (k + 1)).any badP = ((ps.take k).any badP || decide (3 < bh ∨ 3 < bl)) := by rw [HNX.out.1, List.any_append]; simp [badP]
      have HF := Lib.hid (And.intro ho8 (And.intro hown8' (And.intro hD8 (And.intro hG8 hany)))); clear HO7 HR7 HD7 hG7 hbs hown8 hgr8 hat8 ho8 hown8' hD8 hG8 hany
      cases bb with
      | true =>
        go_wp2_with fail
        go_roundw
        case rel => exact ⟨k + 1, true, by omega, by go_num, rfl, by rw [HF.out.2.2.2.2, ← Bool.or_assoc, ← HbB.out, Bool.true_or], HF.out.1, HF.out.2.1, HF.out.2.2.1, HF.out.2.2.2.1⟩
        case measure => simp [intOf]; omega
      | false =>
        by_cases hh : 3 < bh
        · have hhi : 3 < (bh : Int) := by omega
          have HH := Lib.hid hh; clear hh
          go_wp2_with fail
          go_roundw
          case rel => exact ⟨k + 1, true, by omega, by go_num, rfl, by rw [HF.out.2.2.2.2, ← Bool.or_assoc, ← HbB.out, decide_eq_true (.inl HH.out)]; rfl, HF.out.1, HF.out.2.1, HF.out.2.2.1, HF.out.2.2.2.1⟩
          case measure => simp [intOf]; omega
        by_cases hq : 3 < bl
        · have hhi : ¬ 3 < (bh : Int) := by omega
          have hqi : 3 < (bl : Int) := by omega
          have HH := Lib.hid hq; clear hq hh
          go_wp2_with fail
          go_roundw
          case rel => exact ⟨k + 1, true, by omega, by go_num, rfl, by rw [HF.out.2.2.2.2, ← Bool.or_assoc, ← HbB.out, decide_eq_true (.inr HH.out)]; rfl, HF.out.1, HF.out.2.1, HF.out.2.2.1, HF.out.2.2.2.1⟩
          case measure => simp [intOf]; omega
        · have hhi : ¬ 3 < (bh : Int) := by omega
          have hqi : ¬ 3 < (bl : Int) := by omega
          have HH := Lib.hid (show ¬ (3 < bh ∨ 3 < bl) by omega); clear hq hh
          go_wp2_with fail
          go_roundw
          case rel => exact ⟨k + 1, false, by omega, by go_num, rfl, by rw [HF.out.2.2.2.2, ← Bool.or_assoc, ← HbB.out, decide_eq_false HH.out]; rfl, HF.out.1, HF.out.2.1, HF.out.2.2.1, HF.out.2.2.2.1⟩
          case measure => simp [intOf]; omega
    · obtain rfl : k = c := by omega
      have htake : ps.take k = ps := List.take_of_length_le (by rw [HRE.out.2.1]; omega)
      rw [htake] at ho1 ho2
      have hbb := HbB.out
      rw [htake] at hbb
      have HbC := Lib.hid hbb; clear hbb HbB htake hlt hk
      have HO := Lib.hid (And.intro ho1 ho2)
      obtain ⟨A1, k1, rfl⟩ := own_slice ho1
      obtain ⟨A2, k2, rfl⟩ := own_slice ho2
      clear ho1 ho2
      have hl1 := nb_lt m (2 * k)
      have hl2 := nb_lt m (2 * k + 1)
      have hl3 := nb_lt m (2 * k + 1 + 1)
      go_wp2_with fail
      refine (one_any d (m.drop (2 * k)) wr hD (by rw [List.length_drop, HRE.out.2.2.2]; omega)).mono ?_
      rintro e w2 ⟨rfl, hD2, hg2⟩
      rw [nb_drop, Nat.add_zero]
      rw [List.drop_drop] at hD2
      go_wp2_with fail
      refine (one_any d (m.drop (2 * k + 1)) w2 hD2 (by rw [List.length_drop, HRE.out.2.2.2]; omega)).mono ?_
      rintro e w3 ⟨rfl, hD3, hg3⟩
      rw [nb_drop, Nat.add_zero]
      rw [List.drop_drop] at hD3
      go_wp2_with fail
      refine (one_any d (m.drop (2 * k + 1 + 1)) w3 hD3 (by rw [List.length_drop, HRE.out.2.2.2]; omega)).mono ?_
      rintro e w4 ⟨rfl, _, hg4⟩
      rw [nb_drop, Nat.add_zero]
      have hg24 := grown_after (grown_after hg2 hg3) hg4
      have hG4 := grown_after hG hg24
      have ho1 := own_grown HO.out.1 hg24 (.inr fun e => by have := (HO.out.1.lt d e).1; omega)
      have ho2 := own_grown HO.out.2 hg24 (.inr fun e => by have := (HO.out.2.lt d e).1; omega)
      have ht3 := tail3 (L := m.drop (2 * k)) (by rw [List.length_drop, HRE.out.2.2.2]; omega)
      rw [nb_drop, nb_drop, nb_drop] at ht3
      have HT3 := Lib.hid ht3
      have HX := Lib.hid (And.intro hG4 (And.intro ho1 ho2)); clear ht3 hG4 ho1 ho2 hD hD2 hD3 hg2 hg3 hg4 hg24 hG HO
      rw [Nat.add_zero, show 2 * k + 2 = 2 * k + 1 + 1 from rfl] at HT3
      generalize nb m (2 * k) = a at hl1 HT3 ⊢
      generalize nb m (2 * k + 1) = b at hl2 HT3 ⊢
      generalize nb m (2 * k + 1 + 1) = cc at hl3 HT3 ⊢
      cases bb with
      | true =>
        have hres : rsM l = 155 := by
          have h1 := HbC.out
          have h2 := hB.out
          rw [HRE.out.1]
          by_cases h3 : k < 1 ∨ 4 < k ∨ m.drop (2 * k) ≠ [0, 63, 0]
          · rw [if_pos h3]
          · rw [if_neg h3, if_pos]
            have h4 : (decide (k < 1) || decide (4 < k)) = false := by simp; omega
            first | exact absurd (h4.symm.trans h2) (by decide) | (rw [Bool.false_or] at h1; exact h1.symm)
        have HR := Lib.hid hres; clear hres
        go_wp2_with fail
        go_ret3
        exact HFIN.out w4 155 HR.out (by decide) HX.out.1
      | false =>
        have h1 := HbC.out
        have h2 := hB.out
        rw [Bool.false_or] at h1
        have hre : rsM l = if m.drop (2 * k) ≠ [0, 63, 0] then 155 else 0 := by
          have h3 : ¬ (k < 1 ∨ 4 < k) := by simp at h2; omega
          rw [HRE.out.1]
          by_cases h4 : m.drop (2 * k) ≠ [0, 63, 0]
          · rw [if_pos (.inr (.inr h4)), if_pos h4]
          · rw [if_neg (by rintro (h | h | h); exact h3 (.inl h); exact h3 (.inr h); exact h4 h), if_neg (by rw [← h1]; decide), if_neg h4]
        have HRE2 := Lib.hid hre; clear hre h1 h2
        by_cases ha : a = 0
        case neg =>
          have HR := Lib.hid (show rsM l = 155 by rw [HRE2.out, if_pos (fun h => ha (HT3.out.1 h).1)])
          have h7 : ((a : Int) != 0) = true := by simp; omega
          have h8 : ¬ (a : Int) = 0 := by omega
          clear ha
          go_wp2_with fail
          go_ret3
          exact HFIN.out w4 155 HR.out (by decide) HX.out.1
        by_cases hb : b = 63
        case neg =>
          have HR := Lib.hid (show rsM l = 155 by rw [HRE2.out, if_pos (fun h => hb (HT3.out.1 h).2.1)])
          have h6 : ((a : Int) != 0) = false := by simp; omega
          have h7 : ((b : Int) != 63) = true := by simp; omega
          have h8 : ¬ (b : Int) = 63 := by omega
          clear ha hb
          go_wp2_with fail
          go_ret3
          exact HFIN.out w4 155 HR.out (by decide) HX.out.1
        by_cases hc : cc = 0
        case neg =>
          have HR := Lib.hid (show rsM l = 155 by rw [HRE2.out, if_pos (fun h => hc (HT3.out.1 h).2.2)])
          have h5 : ((a : Int) != 0) = false := by simp; omega
          have h6 : ((b : Int) != 63) = false := by simp; omega
          have h7 : ((cc : Int) != 0) = true := by simp; omega
          have h8 : ¬ (cc : Int) = 0 := by omega
          clear ha hb hc
          go_wp2_with fail
          go_ret3
          exact HFIN.out w4 155 HR.out (by decide) HX.out.1
        have HR := Lib.hid (show rsM l = 0 by rw [HRE2.out, if_neg (fun h => h (HT3.out.2 ⟨ha, hb, hc⟩))])
        have h5 : ((a : Int) != 0) = false := by simp; omega
        have h6 : ((b : Int) != 63) = false := by simp; omega
        have h7 : ((cc : Int) != 0) = false := by simp; omega
        clear ha hb hc
        go_wp2_with fail
        go_ret3
        exact HP.out w4 _ _ HR.out HX.out.1 (by rw [HRE.out.2.1]; exact HX.out.2.1) (by rw [HRE.out.2.1]; exact HX.out.2.2)
end Go.Proofs.YtjfgfoeenajneaaGreatDoor.Sg
