/- The document's reading of tables of steps. -/
import Derived.Test.YtjfgfoeenajneaaGreatDoorGA2
namespace Go.Proofs.YtjfgfoeenajneaaGreatDoor.Sg
open Go.RowKit

def quantC (q : QuantM) : List Value := .int .u8 (q.id : Nat) :: .bool q.wide :: q.tab.map fun (n : Nat) => Value.int .u16 (n : Int)
/-- a table of which k steps are there -/
def quantF (id : Nat) (wide : Bool) (t : List Nat) (k : Nat) : List Value := .int .u8 (id : Nat) :: .bool wide :: ((t.take k ++ List.replicate (64 - k) 0).map fun (n : Nat) => Value.int .u16 (n : Int))
theorem infoQ : (Tryz.prog.info? 81).map (fun i => (i.zero, i.size, i.bytes)) = some (some (.agg (quantF 0 false [] 0).toArray), 66, 130) := by kernel_rfl
theorem zq : Tryz.zeroCells81 = (quantF 0 false [] 0).toArray := by kernel_rfl
theorem quantF_length (id : Nat) (wide : Bool) (t : List Nat) (k : Nat) (h : k ≤ 64) (ht : t.length = 64 ∨ k = 0) : (quantF id wide t k).length = 66 := by
  unfold quantF
  have : (t.take k).length = k := by rw [List.length_take]; omega
  simp
  omega
theorem quantF_one (id : Nat) (wide : Bool) (t : List Nat) (k : Nat) : ∀ u ∈ quantF id wide t k, u.oneCell' = true := by
  intro u hu
  unfold quantF at hu
  simp only [List.mem_cons, List.mem_map] at hu
  rcases hu with rfl | rfl | ⟨n, _, rfl⟩ <;> rfl
theorem quantF_set (id : Nat) (wide : Bool) (t : List Nat) (k : Nat) (h : k < 64) (ht : t.length = 64) : (quantF id wide t k).set (2 + k) (.int .u16 (t.getD k 0 : Nat)) = quantF id wide t (k + 1) := by
  unfold quantF
  rw [show 2 + k = (k + 1) + 1 by omega, List.set_cons_succ, List.set_cons_succ]
  congr 2
  have e1 : (t.take k).length = k := by rw [List.length_take]; omega
  rw [show Value.int IntKind.u16 (t.getD k 0 : Nat) = (fun (n : Nat) => Value.int .u16 (n : Int)) (t.getD k 0) from rfl, ← List.map_set, List.set_append_right _ _ (by omega), e1, Nat.sub_self, show 64 - k = (64 - (k + 1)) + 1 by omega, List.replicate_succ, List.set_cons_zero, List.take_succ_eq_append_getElem (by omega), List.append_assoc, List.getD_eq_getElem?_getD, List.getElem?_eq_getElem (by omega)]
  rfl
theorem quantF_all (id : Nat) (wide : Bool) (t : List Nat) (ht : t.length = 64) : quantF id wide t 64 = quantC ⟨id, wide, t⟩ := by
  unfold quantF quantC
  rw [List.take_of_length_le (by omega)]
  simp
theorem quantF_get (id : Nat) (wide : Bool) (t : List Nat) (k : Nat) (h : k < 64) (ht : t.length = 64) : (quantF id wide t k).toArray[2 + k]? = some (.int .u16 0) := by
  unfold quantF
  have e1 : (t.take k).length = k := by rw [List.length_take]; omega
  rw [show 2 + k = (k + 1) + 1 by omega, List.getElem?_toArray, List.getElem?_cons_succ, List.getElem?_cons_succ, List.getElem?_map, List.getElem?_append_right (by omega), e1, List.getElem?_replicate, if_pos (by omega)]
  rfl
/-- an answer's list, or its error -/
def ListP {α : Type} (ty : TypeId) (s : Nat) (flat : α → List Value) (d : Nat) (w : World) (r : Res (List α)) (e : Ending) (w' : World) : Prop :=
  match r with
  | .bad c => e = .returned (.tuple #[.slice none 0 0, .int .i64 c]) ∧ w.grownBy w' (some d)
  | .ok l => ∃ v, e = .returned (.tuple #[v, .int .i64 0]) ∧ w'.ownsRow w.heap.size ty s v l.length (l.flatMap flat) ∧ w.grownBy w' (some d)
def refQ (l : List UInt8) : Res (List QuantM) := if l = [] then .bad 152 else quantsM l.length l []
theorem quantsM_nil (n : Nat) (acc : List QuantM) : quantsM n [] acc = .ok acc := by cases n <;> rfl
theorem tab1_length {l : List UInt8} (h : 64 ≤ l.length) : (tab1 l).length = 64 := by unfold tab1; rw [List.length_map, List.length_take]; omega
theorem tab2_length (l : List UInt8) : (tab2 l).length = 64 := by unfold tab2; simp
theorem tab1_get {l : List UInt8} (h : 64 ≤ l.length) {k : Nat} (hk : k < 64) : (tab1 l).getD k 0 = nb l k := by
  unfold tab1 nb
  rw [List.getD_eq_getElem?_getD, List.getElem?_map, List.getElem?_take, if_pos hk, List.getD_eq_getElem?_getD, List.getElem?_eq_getElem (by omega)]
  rfl
theorem tab2_get (l : List UInt8) {k : Nat} (hk : k < 64) : (tab2 l).getD k 0 = nb2 l (2 * k) := by
  unfold tab2
  rw [List.getD_eq_getElem?_getD, List.getElem?_map, List.getElem?_range hk]
  rfl
theorem quantC_length (q : QuantM) (h : q.tab.length = 64) : (quantC q).length = 66 := by unfold quantC; simp [h]
theorem quantC_one (q : QuantM) : ∀ u ∈ quantC q, u.oneCell' = true := by
  intro u hu
  unfold quantC at hu
  simp only [List.mem_cons, List.mem_map] at hu
  rcases hu with rfl | rfl | ⟨n, _, rfl⟩ <;> rfl
theorem tabs_range (q : QuantM) : ((quantC q).toArray.toList.drop 2).take (q.tab.map fun (n : Nat) => Value.int .u16 (n : Int)).length = q.tab.map fun (n : Nat) => Value.int .u16 (n : Int) := by
  unfold quantC
  simp
  rw [List.take_of_length_le (by simp)]
theorem size64 : (Tryz.prog.info? 79).map (·.size) = some 64 := by kernel_rfl
theorem size66 : (Tryz.prog.info? 81).map (·.size) = some 66 := by kernel_rfl
set_option maxRecDepth 100000 in
set_option maxHeartbeats 16000000 in
theorem quants_any (d : Nat) (l : List UInt8) (w : World) (hd : StrAt 123 w d l) (hl : l.length ≤ 4194304) :
    Calls Tryz.prog 57 #[.pointer (some ⟨d, 0, none⟩)] w (ListP 81 66 quantC d w (refQ l)) := by
  obtain ⟨iq, iq1, iq2, iq3, iq4⟩ := info_parts infoQ
  obtain ⟨zqv, hzqv⟩ : ∃ z, z = Value.agg (quantF 0 false [] 0).toArray := ⟨_, rfl⟩
  rw [← hzqv] at iq2
  have iq5 : zqv.cells.size = 66 := by rw [hzqv]; rfl
  clear hzqv
  have IQ := Lib.hid (And.intro iq1 (And.intro iq2 (And.intro iq3 (And.intro iq4 iq5)))); clear iq1 iq2 iq3 iq4 iq5
  have hdlt := hd.lt
  go_enter Tryz.func57, Tryz.ntmps57
  go_wp2_with fail
  go_loopw [4] (fun v wr => ∃ (rest : List UInt8) (n : Nat) (acc : List QuantM), wr.ownsRow w.heap.size 81 66 v acc.length (acc.flatMap quantC) ∧ StrAt 123 wr d rest ∧ w.grownBy wr (some d) ∧ rest.length ≤ n ∧ rest.length ≤ l.length ∧ acc.length + rest.length ≤ l.length ∧ (acc.length = 0 → rest.length = l.length) ∧ refQ l = (if l = [] then .bad 152 else quantsM n rest acc)) (fun _ wr => strLen wr d)
  case atStart => exact ⟨l, l.length, [], World.ownsRow_nil _ _ _ _, hd, grown_of_below (Below.refl _ _) _, Nat.le_refl _, Nat.le_refl _, by simp, fun _ => rfl, rfl⟩
  clear hd
  case round =>
    obtain ⟨rest, n, acc, hown, hd, hgr, hn1, hn2, hn3, hn4, hq⟩ := hrel
    have HQ := Lib.hid hq; clear hq
    cases rest with
    | nil =>
      have c0 : wr.cell? ⟨d, 0, none⟩ = some (.string (Bs [])) := by rw [hd.cell]; rfl
      have hz := Bs_size []
      obtain ⟨A, c, rfl⟩ := own_slice hown
      by_cases h0 : acc.length = 0
      · have hl0 : l = [] := List.eq_nil_of_length_eq_zero (by have := hn4 h0; simpa using this.symm)
        have hres : refQ l = .bad 152 := by rw [HQ.out, if_pos hl0]
        have HR := Lib.hid hres; clear hres
        rw [h0]
        clear hl0 h0 hn4
        go_wp2_with fail
        go_ret2
        rw [HR.out]
        exact ⟨rfl, hgr⟩
      · have hl0 : l ≠ [] := fun e => by rw [e] at hn3; simp at hn3; exact h0 (by simp [hn3])
        have hres : refQ l = .ok acc := by rw [HQ.out, if_neg hl0, quantsM_nil]
        have HR := Lib.hid hres; clear hres
        have h0' : ((acc.length : Int) == 0) = false := beq_false_of_ne (by omega)
        have h0n : ¬ (acc.length : Int) = 0 := by omega
        have h0m : (acc.length == 0) = false := beq_false_of_ne h0
        clear hl0 hn4
        go_wp2_with fail
        go_ret2
        rw [HR.out]
        exact ⟨_, rfl, hown, hgr⟩
    | cons b r =>
      obtain ⟨m, rfl⟩ : ∃ m, n = m + 1 := ⟨n - 1, by simp at hn1; omega⟩
      have hl0 : l ≠ [] := fun e => by rw [e] at hn2; simp at hn2
      have hq := HQ.out
      rw [if_neg hl0] at hq
      clear HQ hl0 hn4
      simp only [quantsM] at hq
      have hbb := b.toNat_lt
      obtain ⟨x, hx⟩ : ∃ x, b.toNat / 16 = x := ⟨_, rfl⟩
      obtain ⟨y, hy⟩ : ∃ y, b.toNat % 16 = y := ⟨_, rfl⟩
      rw [hx, hy] at hq
      have g1 : (b.toNat : Int) / 16 = (x : Int) := by omega
      have g2 : (b.toNat : Int) % 16 = (y : Int) := by omega
      have hb0 : 0 ≤ (b.toNat : Int) := by omega
      have hb1 : (b.toNat : Int) ≤ 255 := by omega
      have gy : y < 16 := by omega
      have gx : x < 16 := by omega
      have HXE := Lib.hid hx; clear hx hy
      have hown' := hown
      obtain ⟨A, c, rfl⟩ := own_slice hown
      have c0 : wr.cell? ⟨d, 0, none⟩ = some (.string (Bs (b :: r))) := by rw [hd.cell]; rfl
      have hz := Bs_size (b :: r)
      simp only [List.length_cons] at hz hn1 hn2 hn3
      have HQ := Lib.hid hq; clear hq
      go_wp2_with fail
      refine (one_any d (b :: r) wr hd (by simp; omega)).mono ?_
      rintro e w1 ⟨rfl, hd1, gr0⟩
      rw [nb_cons]
      rw [show (b :: r).drop 1 = r from rfl] at hd1
      have gr1 := grown_after hgr gr0
      clear c0 hz
      by_cases h1 : 1 < x
      · have hres : refQ l = .bad 153 := by rw [HQ.out, if_pos (.inl h1)]
        have HR := Lib.hid hres; clear hres
        go_wp2_with fail
        go_ret2
        rw [HR.out]
        exact ⟨rfl, gr1⟩
      by_cases h1' : 3 < y
      · have hres : refQ l = .bad 153 := by rw [HQ.out, if_pos (.inr h1')]
        have HR := Lib.hid hres; clear hres
        go_wp2_with fail
        go_ret2
        rw [HR.out]
        exact ⟨rfl, gr1⟩
      have hq := HQ.out
      rw [if_neg (by omega)] at hq
      clear HQ
      obtain rfl | rfl : x = 0 ∨ x = 1 := by omega
      · have g1 : (b.toNat : Int) / 16 = 0 := by omega
        have hown := own_grown hown' gr0 (.inr fun e => by have := (hown'.lt d e).1; omega)
        by_cases h2 : r.length < 64
        · have hq2 : refQ l = .bad 152 := by rw [hq, if_pos (by omega)]
          have HR := Lib.hid hq2; clear hq2 hq
          have hbuild : ((Tryz.zeroCells81.setIfInBounds 0 (Value.int IntKind.u8 (y : Int))).setIfInBounds 1 (Value.bool false)) = (quantF y false [] 0).toArray := by rw [zq]; rfl
          have hi1 : (Tryz.prog.info? 81).map (·.size) = some ((Tryz.zeroCells81.setIfInBounds 0 (Value.int IntKind.u8 (y : Int))).setIfInBounds 1 (Value.bool false)).size := by
            simp only [Array.size_setIfInBounds]
            kernel_rfl
          have hi2 : Tryz.zeroCells81.size = ((Tryz.zeroCells81.setIfInBounds 0 (Value.int IntKind.u8 (y : Int))).setIfInBounds 1 (Value.bool false)).size := by
            simp only [Array.size_setIfInBounds]
          have hi3 : ((Tryz.zeroCells81.setIfInBounds 0 (Value.int IntKind.u8 (y : Int))).setIfInBounds 1 (Value.bool false)).all (·.oneCell') = true := by
            rw [hbuild, Array.all_eq_true_iff_forall_mem]
            intro u hu
            exact quantF_one _ _ _ _ u (by simpa using hu)
          have HI := Lib.hid (And.intro hi1 (And.intro hi2 hi3)); clear hi1 hi2 hi3
          have HBU := Lib.hid hbuild; clear hbuild
          have y5 : (r.length : Int) < 64 := by omega
          clear h2
          have hz1 := Bs_size r
          have c1 : w1.cell? ⟨d, 0, none⟩ = some (.string (Bs r)) := by rw [hd1.cell]; rfl
          go_upto_region 7 with (refine wpList_store_row rfl _ _ _ rfl _ _ rfl rfl _ _ (Blk.new w1 _ _) HI.out.1 HI.out.2.1 HI.out.2.2 ?_)
          rw [HBU.out]
          have hq2 : Blk ((w1.alloc (.cells Tryz.zeroCells81 81)).setRow w1.heap.size (quantF y false [] 0).toArray) w1.heap.size 81 (quantF y false [] 0).toArray := (Blk.new w1 _ _).row
          have gr12 : w1.grownBy ((w1.alloc (.cells Tryz.zeroCells81 81)).setRow w1.heap.size (quantF y false [] 0).toArray) (some d) := grown_row (grown_alloc (grown_of_below (Below.refl _ _) _) _) (.inl (Nat.le_refl _)) _
          have gr2 := grown_after gr1 gr12
          have hd2 : StrAt 123 ((w1.alloc (.cells Tryz.zeroCells81 81)).setRow w1.heap.size (quantF y false [] 0).toArray) d r := (hd1.alloc _).rowFar (by have := hd1.lt; omega)
          generalize ((w1.alloc (.cells Tryz.zeroCells81 81)).setRow w1.heap.size (quantF y false [] 0).toArray) = w2 at hq2 gr12 gr2 hd2 ⊢
          have hqd : w1.heap.size ≠ d := by have := hd1.lt; omega
          generalize hqq : w1.heap.size = q at hq2 hqd ⊢
          have hqs : w1.heap.size ≤ q := by omega
          have HQQ := Lib.hid hqq; clear hqq
          have c2 : w2.cell? ⟨d, 0, none⟩ = some (.string (Bs r)) := by rw [hd2.cell]; rfl
          go_wp2_with fail
          go_ret2
          rw [HR.out]
          exact ⟨rfl, gr2⟩
        · have hq2 := hq
          rw [if_neg (by omega)] at hq2
          clear hq
          have hr64 : 64 ≤ r.length := by omega
          have htl : (tab1 r).length = 64 := tab1_length hr64
          have HQ2 := Lib.hid hq2; clear hq2
          have HTL := Lib.hid htl; clear htl
          have hbuild : ((Tryz.zeroCells81.setIfInBounds 0 (Value.int IntKind.u8 (y : Int))).setIfInBounds 1 (Value.bool false)) = (quantF y false [] 0).toArray := by rw [zq]; rfl
          have hi1 : (Tryz.prog.info? 81).map (·.size) = some ((Tryz.zeroCells81.setIfInBounds 0 (Value.int IntKind.u8 (y : Int))).setIfInBounds 1 (Value.bool false)).size := by
            simp only [Array.size_setIfInBounds]
            kernel_rfl
          have hi2 : Tryz.zeroCells81.size = ((Tryz.zeroCells81.setIfInBounds 0 (Value.int IntKind.u8 (y : Int))).setIfInBounds 1 (Value.bool false)).size := by
            simp only [Array.size_setIfInBounds]
          have hi3 : ((Tryz.zeroCells81.setIfInBounds 0 (Value.int IntKind.u8 (y : Int))).setIfInBounds 1 (Value.bool false)).all (·.oneCell') = true := by
            rw [hbuild, Array.all_eq_true_iff_forall_mem]
            intro u hu
            exact quantF_one _ _ _ _ u (by simpa using hu)
          have HI := Lib.hid (And.intro hi1 (And.intro hi2 hi3)); clear hi1 hi2 hi3
          have HBU := Lib.hid hbuild; clear hbuild
          have y5 : ¬ (r.length : Int) < 64 := by omega
          clear h2
          have hz1 := Bs_size r
          have c1 : w1.cell? ⟨d, 0, none⟩ = some (.string (Bs r)) := by rw [hd1.cell]; rfl
          go_upto_region 7 with (refine wpList_store_row rfl _ _ _ rfl _ _ rfl rfl _ _ (Blk.new w1 _ _) HI.out.1 HI.out.2.1 HI.out.2.2 ?_)
          rw [HBU.out]
          have hq2 : Blk ((w1.alloc (.cells Tryz.zeroCells81 81)).setRow w1.heap.size (quantF y false [] 0).toArray) w1.heap.size 81 (quantF y false [] 0).toArray := (Blk.new w1 _ _).row
          have gr12 : w1.grownBy ((w1.alloc (.cells Tryz.zeroCells81 81)).setRow w1.heap.size (quantF y false [] 0).toArray) (some d) := grown_row (grown_alloc (grown_of_below (Below.refl _ _) _) _) (.inl (Nat.le_refl _)) _
          have gr2 := grown_after gr1 gr12
          have hd2 : StrAt 123 ((w1.alloc (.cells Tryz.zeroCells81 81)).setRow w1.heap.size (quantF y false [] 0).toArray) d r := (hd1.alloc _).rowFar (by have := hd1.lt; omega)
          generalize ((w1.alloc (.cells Tryz.zeroCells81 81)).setRow w1.heap.size (quantF y false [] 0).toArray) = w2 at hq2 gr12 gr2 hd2 ⊢
          have hqd : w1.heap.size ≠ d := by have := hd1.lt; omega
          generalize hqq : w1.heap.size = q at hq2 hqd ⊢
          have hqs : w1.heap.size ≤ q := by omega
          have HQQ := Lib.hid hqq; clear hqq
          have c2 : w2.cell? ⟨d, 0, none⟩ = some (.string (Bs r)) := by rw [hd2.cell]; rfl
          go_wp2_with fail
          clear c2 c1
          go_loopw [7] (fun i wr => ∃ k : Nat, k ≤ 64 ∧ i = .int .i64 k ∧ Blk wr q 81 (quantF y false (tab1 r) k).toArray ∧ StrAt 123 wr d (r.drop (1 * k)) ∧ w1.grownBy wr (some d)) (fun i _ => 64 - (intOf i).toNat)
          case atStart => exact ⟨0, Nat.zero_le _, rfl, hq2, by simpa using hd2, gr12⟩
          clear hq2 hd2 gr2 gr12
          clear w2
          case round =>
            obtain ⟨k, hk, rfl, hB, hD, hG⟩ := hrel
            by_cases hlt : k < 64
            · have e1 : wr.cell? ⟨q, 1, none⟩ = some (.bool false) := by rw [hB.cell]; rfl
              have f1 : wr.frozen? ⟨q, 2 + k, none⟩ = false := hB.frozen _
              have hnx := quantF_set y false (tab1 r) k hlt HTL.out
              rw [tab1_get hr64 hlt] at hnx
              have HNX := Lib.hid hnx; clear hnx
              have e2 : wr.cell? ⟨q, 2 + k, none⟩ = some (.int .u16 0) := by rw [hB.cell, quantF_get y false (tab1 r) k hlt HTL.out]
              have hqd' : q ≠ d := hqd
              go_wp2_with fail
              refine (one_any d (r.drop (1 * k)) wr hD (by simp; omega)).mono ?_
              rintro e w3 ⟨rfl, hD3, hG3⟩
              rw [List.drop_drop] at hD3
              rw [nb_drop, Nat.add_zero, Nat.one_mul]
              have hB3 : Blk w3 q 81 _ := hB.keeps (hG3.block q hB.lt (fun e => hqd (by injection e)))
              have f3 : w3.frozen? ⟨q, 2 + k, none⟩ = false := hB3.frozen _
              have e3 : w3.cell? ⟨q, 2 + k, none⟩ = some (.int .u16 0) := by rw [hB3.cell, quantF_get y false (tab1 r) k hlt HTL.out]
              have hvb := nb_lt r k
              obtain ⟨val, hval⟩ : ∃ val, nb r k = val := ⟨_, rfl⟩
              rw [hval] at hvb ⊢
              have HVAL := Lib.hid hval; clear hval
              clear e1 e2 f1
              go_wp2_with fail
              go_roundw
              case rel =>
                refine ⟨k + 1, by omega, by go_num, ?_, ?_, ?_⟩
                · have h9 := hB3.set (2 + k) (.int .u16 (val : Int))
                  rw [List.setIfInBounds_toArray, ← HVAL.out, HNX.out] at h9
                  rw [← HVAL.out]
                  exact h9
                · have h9 := hD3.far (p := ⟨q, 2 + k, none⟩) (fun e => hqd e.symm) (.int .u16 (val : Int))
                  rw [show 1 * k + 1 = 1 * (k + 1) by omega] at h9
                  exact h9
                · exact grown_write (grown_after hG hG3) (.inl hqs) _
              case measure => simp [intOf]; omega
            · obtain rfl : k = 64 := by omega
              rw [quantF_all _ _ _ HTL.out] at hB
              have hrange := Blk.range hB 2 _ (tabs_range ⟨y, false, tab1 r⟩)
              have HRG := Lib.hid hrange; clear hrange
              have hs64 : (Tryz.prog.info? 79).map (·.size) = some ((tab1 r).map fun (n : Nat) => Value.int .u16 (n : Int)).length := by rw [List.length_map, HTL.out]; exact size64
              have HS64 := Lib.hid hs64; clear hs64
              go_wp2_with (refine wpList_load_mid rfl _ _ rfl q 2 rfl _ _ HRG.out Tryz.underlying79 rfl HS64.out ?_)
              refine (zero_any (tab1 r) wr HTL.out).mono ?_
              rintro e w5 ⟨rfl, hb5⟩
              have hB5 := hB.kept hb5
              have hD5 := hD.kept hb5
              have hG5 := grown_after hG (below_grown hb5 _)
              have hq3 := HQ2.out
              rw [show tabOf (0 == 1) r = tab1 r from rfl] at hq3
              cases hzero : zeroM (tab1 r)
              · rw [hzero, if_neg (by simp)] at hq3
                have HQ3 := Lib.hid hq3; clear hq3 hzero
                have hpos : q < w5.heap.size := hB5.lt
                have hown5 := own_grown hown hG5 (.inr fun e => by have := (hown.lt d e).1; omega)
                have hs66 : (Tryz.prog.info? 81).map (·.size) = some ((quantC ⟨y, false, tab1 r⟩).toArray).size := by rw [List.size_toArray, quantC_length _ HTL.out]; exact size66
                have HS66 := Lib.hid hs66; clear hs66
                have hC := quantC_length ⟨y, false, tab1 r⟩ HTL.out
                have hC1 := quantC_one ⟨y, false, tab1 r⟩
                have HC := Lib.hid (And.intro hC hC1); clear hC hC1
                have hsz5 : w.heap.size ≤ w5.heap.size := Nat.le_trans gr1.size hG5.size
                have hrow : w5.heap[q]? = some (.cells (quantC ⟨y, false, tab1 r⟩).toArray 81 (0, 0)) := hB5
                have HROW := Lib.hid hrow; clear hrow
                go_wp2_with (first | (refine wpList_load_row rfl _ _ rfl q rfl _ _ _ _ HROW.out Tryz.underlying81 rfl HS66.out ?_) | (refine wpList_buildOne rfl 23 81 _ rfl _ rfl iq zqv 66 Tryz.underlying23 IQ.out.1 IQ.out.2.1 IQ.out.2.2.1 (by rw [List.size_toArray]; exact HC.out.1) (by decide) (by decide) ?_) | (at_builtin; refine wpList_append_lies _ rfl (.tmp 62) (.tmp 64) 23 rfl w.heap.size 81 iq zqv 66 130 Tryz.underlying23 IQ.out.1 IQ.out.2.1 IQ.out.2.2.1 IQ.out.2.2.2.1 IQ.out.2.2.2.2 (by decide) _ acc.length _ rfl (hown5.alloc _) ⟨w5.heap.size, 0, none⟩ 1 1 (quantC ⟨y, false, tab1 r⟩) rfl (by rw [HC.out.1]) (show ∀ i u, _ → World.cell? _ _ = _ from fun i u hu => by rw [(show (⟨w5.heap.size, 0, none⟩ : Addr).add i = ⟨w5.heap.size, 0 + i, none⟩ from Addr.add_mid _ _ _), (Blk.new w5 81 (quantC ⟨y, false, tab1 r⟩).toArray).cell, Nat.zero_add]; simpa using hu) HC.out.2 (by decide) (by unfold maxLen; omega) (by omega) (show w.heap.size ≤ (w5.alloc (.cells (quantC ⟨y, false, tab1 r⟩).toArray 81)).heap.size by simp; omega) (w5.heap.size + 1) (show (w5.alloc (.cells (quantC ⟨y, false, tab1 r⟩).toArray 81)).heap.size = _ by simp) ?_; intro gg cap w6 hown6 hgrow6 hat6 hlt6))
                have hG6 : w.grownBy w6 (some d) := grown_own (grown_alloc (grown_after gr1 hG5) _) hgrow6 (fun g hg => .inl (hown5.lt g hg).1)
                have hdo : ∀ g, (Value.slice A acc.length c).ownBlock = some g → g ≠ d := fun g hg e => by have := (hown5.lt g hg).1; omega
                have hD6 : StrAt 123 w6 d (r.drop (1 * 64)) := (hD5.alloc _).keeps (hgrow6.block d (by simp; have := hD5.lt; omega) (fun e => hdo d e.symm rfl))
                go_roundw
                case rel =>
                  refine ⟨r.drop (1 * 64), m, acc ++ [⟨y, false, tab1 r⟩], ?_, hD6, hG6, by simp; omega, by simp; omega, by simp; omega, fun e => by simp at e, by rw [HQ3.out, if_neg (fun e => by rw [e] at hn2; simp at hn2)]; rfl⟩
                  rw [List.flatMap_append, List.length_append]
                  simpa using hown6
                case measure => rw [strLen_at hD6, strLen_at hd]; simp; omega
              · rw [hzero, if_pos rfl] at hq3
                have HQ3 := Lib.hid hq3; clear hq3 hzero
                go_wp2_with fail
                go_ret2
                rw [HQ3.out]
                exact ⟨rfl, grown_after gr1 hG5⟩
      · have g1 : (b.toNat : Int) / 16 = 1 := by omega
        have hown := own_grown hown' gr0 (.inr fun e => by have := (hown'.lt d e).1; omega)
        by_cases h2 : r.length < 128
        · have hq2 : refQ l = .bad 152 := by rw [hq, if_pos (by omega)]
          have HR := Lib.hid hq2; clear hq2 hq
          have hbuild : ((Tryz.zeroCells81.setIfInBounds 0 (Value.int IntKind.u8 (y : Int))).setIfInBounds 1 (Value.bool true)) = (quantF y true [] 0).toArray := by rw [zq]; rfl
          have hi1 : (Tryz.prog.info? 81).map (·.size) = some ((Tryz.zeroCells81.setIfInBounds 0 (Value.int IntKind.u8 (y : Int))).setIfInBounds 1 (Value.bool true)).size := by
            simp only [Array.size_setIfInBounds]
            kernel_rfl
          have hi2 : Tryz.zeroCells81.size = ((Tryz.zeroCells81.setIfInBounds 0 (Value.int IntKind.u8 (y : Int))).setIfInBounds 1 (Value.bool true)).size := by
            simp only [Array.size_setIfInBounds]
          have hi3 : ((Tryz.zeroCells81.setIfInBounds 0 (Value.int IntKind.u8 (y : Int))).setIfInBounds 1 (Value.bool true)).all (·.oneCell') = true := by
            rw [hbuild, Array.all_eq_true_iff_forall_mem]
            intro u hu
            exact quantF_one _ _ _ _ u (by simpa using hu)
          have HI := Lib.hid (And.intro hi1 (And.intro hi2 hi3)); clear hi1 hi2 hi3
          have HBU := Lib.hid hbuild; clear hbuild
          have y5 : (r.length : Int) < 128 := by omega
          clear h2
          have hz1 := Bs_size r
          have c1 : w1.cell? ⟨d, 0, none⟩ = some (.string (Bs r)) := by rw [hd1.cell]; rfl
          go_upto_region 7 with (refine wpList_store_row rfl _ _ _ rfl _ _ rfl rfl _ _ (Blk.new w1 _ _) HI.out.1 HI.out.2.1 HI.out.2.2 ?_)
          rw [HBU.out]
          have hq2 : Blk ((w1.alloc (.cells Tryz.zeroCells81 81)).setRow w1.heap.size (quantF y true [] 0).toArray) w1.heap.size 81 (quantF y true [] 0).toArray := (Blk.new w1 _ _).row
          have gr12 : w1.grownBy ((w1.alloc (.cells Tryz.zeroCells81 81)).setRow w1.heap.size (quantF y true [] 0).toArray) (some d) := grown_row (grown_alloc (grown_of_below (Below.refl _ _) _) _) (.inl (Nat.le_refl _)) _
          have gr2 := grown_after gr1 gr12
          have hd2 : StrAt 123 ((w1.alloc (.cells Tryz.zeroCells81 81)).setRow w1.heap.size (quantF y true [] 0).toArray) d r := (hd1.alloc _).rowFar (by have := hd1.lt; omega)
          generalize ((w1.alloc (.cells Tryz.zeroCells81 81)).setRow w1.heap.size (quantF y true [] 0).toArray) = w2 at hq2 gr12 gr2 hd2 ⊢
          have hqd : w1.heap.size ≠ d := by have := hd1.lt; omega
          generalize hqq : w1.heap.size = q at hq2 hqd ⊢
          have hqs : w1.heap.size ≤ q := by omega
          have HQQ := Lib.hid hqq; clear hqq
          have c2 : w2.cell? ⟨d, 0, none⟩ = some (.string (Bs r)) := by rw [hd2.cell]; rfl
          go_wp2_with fail
          go_ret2
          rw [HR.out]
          exact ⟨rfl, gr2⟩
        · have hq2 := hq
          rw [if_neg (by omega)] at hq2
          clear hq
          have hr64 : 128 ≤ r.length := by omega
          have htl : (tab2 r).length = 64 := tab2_length r
          have HQ2 := Lib.hid hq2; clear hq2
          have HTL := Lib.hid htl; clear htl
          have hbuild : ((Tryz.zeroCells81.setIfInBounds 0 (Value.int IntKind.u8 (y : Int))).setIfInBounds 1 (Value.bool true)) = (quantF y true [] 0).toArray := by rw [zq]; rfl
          have hi1 : (Tryz.prog.info? 81).map (·.size) = some ((Tryz.zeroCells81.setIfInBounds 0 (Value.int IntKind.u8 (y : Int))).setIfInBounds 1 (Value.bool true)).size := by
            simp only [Array.size_setIfInBounds]
            kernel_rfl
          have hi2 : Tryz.zeroCells81.size = ((Tryz.zeroCells81.setIfInBounds 0 (Value.int IntKind.u8 (y : Int))).setIfInBounds 1 (Value.bool true)).size := by
            simp only [Array.size_setIfInBounds]
          have hi3 : ((Tryz.zeroCells81.setIfInBounds 0 (Value.int IntKind.u8 (y : Int))).setIfInBounds 1 (Value.bool true)).all (·.oneCell') = true := by
            rw [hbuild, Array.all_eq_true_iff_forall_mem]
            intro u hu
            exact quantF_one _ _ _ _ u (by simpa using hu)
          have HI := Lib.hid (And.intro hi1 (And.intro hi2 hi3)); clear hi1 hi2 hi3
          have HBU := Lib.hid hbuild; clear hbuild
          have y5 : ¬ (r.length : Int) < 128 := by omega
          clear h2
          have hz1 := Bs_size r
          have c1 : w1.cell? ⟨d, 0, none⟩ = some (.string (Bs r)) := by rw [hd1.cell]; rfl
          go_upto_region 7 with (refine wpList_store_row rfl _ _ _ rfl _ _ rfl rfl _ _ (Blk.new w1 _ _) HI.out.1 HI.out.2.1 HI.out.2.2 ?_)
          rw [HBU.out]
          have hq2 : Blk ((w1.alloc (.cells Tryz.zeroCells81 81)).setRow w1.heap.size (quantF y true [] 0).toArray) w1.heap.size 81 (quantF y true [] 0).toArray := (Blk.new w1 _ _).row
          have gr12 : w1.grownBy ((w1.alloc (.cells Tryz.zeroCells81 81)).setRow w1.heap.size (quantF y true [] 0).toArray) (some d) := grown_row (grown_alloc (grown_of_below (Below.refl _ _) _) _) (.inl (Nat.le_refl _)) _
          have gr2 := grown_after gr1 gr12
          have hd2 : StrAt 123 ((w1.alloc (.cells Tryz.zeroCells81 81)).setRow w1.heap.size (quantF y true [] 0).toArray) d r := (hd1.alloc _).rowFar (by have := hd1.lt; omega)
          generalize ((w1.alloc (.cells Tryz.zeroCells81 81)).setRow w1.heap.size (quantF y true [] 0).toArray) = w2 at hq2 gr12 gr2 hd2 ⊢
          have hqd : w1.heap.size ≠ d := by have := hd1.lt; omega
          generalize hqq : w1.heap.size = q at hq2 hqd ⊢
          have hqs : w1.heap.size ≤ q := by omega
          have HQQ := Lib.hid hqq; clear hqq
          have c2 : w2.cell? ⟨d, 0, none⟩ = some (.string (Bs r)) := by rw [hd2.cell]; rfl
          go_wp2_with fail
          clear c2 c1
          go_loopw [7] (fun i wr => ∃ k : Nat, k ≤ 64 ∧ i = .int .i64 k ∧ Blk wr q 81 (quantF y true (tab2 r) k).toArray ∧ StrAt 123 wr d (r.drop (2 * k)) ∧ w1.grownBy wr (some d)) (fun i _ => 64 - (intOf i).toNat)
          case atStart => exact ⟨0, Nat.zero_le _, rfl, hq2, by simpa using hd2, gr12⟩
          clear hq2 hd2 gr2 gr12
          clear w2
          case round =>
            obtain ⟨k, hk, rfl, hB, hD, hG⟩ := hrel
            by_cases hlt : k < 64
            · have e1 : wr.cell? ⟨q, 1, none⟩ = some (.bool true) := by rw [hB.cell]; rfl
              have f1 : wr.frozen? ⟨q, 2 + k, none⟩ = false := hB.frozen _
              have hnx := quantF_set y true (tab2 r) k hlt HTL.out
              rw [tab2_get r hlt] at hnx
              have HNX := Lib.hid hnx; clear hnx
              have e2 : wr.cell? ⟨q, 2 + k, none⟩ = some (.int .u16 0) := by rw [hB.cell, quantF_get y true (tab2 r) k hlt HTL.out]
              have hqd' : q ≠ d := hqd
              go_wp2_with fail
              refine (two_any d (r.drop (2 * k)) wr hD (by simp; omega)).mono ?_
              rintro e w3 ⟨rfl, hD3, hG3⟩
              rw [List.drop_drop] at hD3
              rw [nb2_drop, Nat.add_zero]
              have hB3 : Blk w3 q 81 _ := hB.keeps (hG3.block q hB.lt (fun e => hqd (by injection e)))
              have f3 : w3.frozen? ⟨q, 2 + k, none⟩ = false := hB3.frozen _
              have e3 : w3.cell? ⟨q, 2 + k, none⟩ = some (.int .u16 0) := by rw [hB3.cell, quantF_get y true (tab2 r) k hlt HTL.out]
              have hvb := nb2_lt r (2 * k)
              obtain ⟨val, hval⟩ : ∃ val, nb2 r (2 * k) = val := ⟨_, rfl⟩
              rw [hval] at hvb ⊢
              have HVAL := Lib.hid hval; clear hval
              clear e1 e2 f1
              go_wp2_with fail
              go_roundw
              case rel =>
                refine ⟨k + 1, by omega, by go_num, ?_, ?_, ?_⟩
                · have h9 := hB3.set (2 + k) (.int .u16 (val : Int))
                  rw [List.setIfInBounds_toArray, ← HVAL.out, HNX.out] at h9
                  rw [← HVAL.out]
                  exact h9
                · have h9 := hD3.far (p := ⟨q, 2 + k, none⟩) (fun e => hqd e.symm) (.int .u16 (val : Int))
                  rw [show 2 * k + 2 = 2 * (k + 1) by omega] at h9
                  exact h9
                · exact grown_write (grown_after hG hG3) (.inl hqs) _
              case measure => simp [intOf]; omega
            · obtain rfl : k = 64 := by omega
              rw [quantF_all _ _ _ HTL.out] at hB
              have hrange := Blk.range hB 2 _ (tabs_range ⟨y, true, tab2 r⟩)
              have HRG := Lib.hid hrange; clear hrange
              have hs64 : (Tryz.prog.info? 79).map (·.size) = some ((tab2 r).map fun (n : Nat) => Value.int .u16 (n : Int)).length := by rw [List.length_map, HTL.out]; exact size64
              have HS64 := Lib.hid hs64; clear hs64
              go_wp2_with (refine wpList_load_mid rfl _ _ rfl q 2 rfl _ _ HRG.out Tryz.underlying79 rfl HS64.out ?_)
              refine (zero_any (tab2 r) wr HTL.out).mono ?_
              rintro e w5 ⟨rfl, hb5⟩
              have hB5 := hB.kept hb5
              have hD5 := hD.kept hb5
              have hG5 := grown_after hG (below_grown hb5 _)
              have hq3 := HQ2.out
              rw [show tabOf (1 == 1) r = tab2 r from rfl] at hq3
              cases hzero : zeroM (tab2 r)
              · rw [hzero, if_neg (by simp)] at hq3
                have HQ3 := Lib.hid hq3; clear hq3 hzero
                have hpos : q < w5.heap.size := hB5.lt
                have hown5 := own_grown hown hG5 (.inr fun e => by have := (hown.lt d e).1; omega)
                have hs66 : (Tryz.prog.info? 81).map (·.size) = some ((quantC ⟨y, true, tab2 r⟩).toArray).size := by rw [List.size_toArray, quantC_length _ HTL.out]; exact size66
                have HS66 := Lib.hid hs66; clear hs66
                have hC := quantC_length ⟨y, true, tab2 r⟩ HTL.out
                have hC1 := quantC_one ⟨y, true, tab2 r⟩
                have HC := Lib.hid (And.intro hC hC1); clear hC hC1
                have hsz5 : w.heap.size ≤ w5.heap.size := Nat.le_trans gr1.size hG5.size
                have hrow : w5.heap[q]? = some (.cells (quantC ⟨y, true, tab2 r⟩).toArray 81 (0, 0)) := hB5
                have HROW := Lib.hid hrow; clear hrow
                go_wp2_with (first | (refine wpList_load_row rfl _ _ rfl q rfl _ _ _ _ HROW.out Tryz.underlying81 rfl HS66.out ?_) | (refine wpList_buildOne rfl 23 81 _ rfl _ rfl iq zqv 66 Tryz.underlying23 IQ.out.1 IQ.out.2.1 IQ.out.2.2.1 (by rw [List.size_toArray]; exact HC.out.1) (by decide) (by decide) ?_) | (at_builtin; refine wpList_append_lies _ rfl (.tmp 62) (.tmp 64) 23 rfl w.heap.size 81 iq zqv 66 130 Tryz.underlying23 IQ.out.1 IQ.out.2.1 IQ.out.2.2.1 IQ.out.2.2.2.1 IQ.out.2.2.2.2 (by decide) _ acc.length _ rfl (hown5.alloc _) ⟨w5.heap.size, 0, none⟩ 1 1 (quantC ⟨y, true, tab2 r⟩) rfl (by rw [HC.out.1]) (show ∀ i u, _ → World.cell? _ _ = _ from fun i u hu => by rw [(show (⟨w5.heap.size, 0, none⟩ : Addr).add i = ⟨w5.heap.size, 0 + i, none⟩ from Addr.add_mid _ _ _), (Blk.new w5 81 (quantC ⟨y, true, tab2 r⟩).toArray).cell, Nat.zero_add]; simpa using hu) HC.out.2 (by decide) (by unfold maxLen; omega) (by omega) (show w.heap.size ≤ (w5.alloc (.cells (quantC ⟨y, true, tab2 r⟩).toArray 81)).heap.size by simp; omega) (w5.heap.size + 1) (show (w5.alloc (.cells (quantC ⟨y, true, tab2 r⟩).toArray 81)).heap.size = _ by simp) ?_; intro gg cap w6 hown6 hgrow6 hat6 hlt6))
                have hG6 : w.grownBy w6 (some d) := grown_own (grown_alloc (grown_after gr1 hG5) _) hgrow6 (fun g hg => .inl (hown5.lt g hg).1)
                have hdo : ∀ g, (Value.slice A acc.length c).ownBlock = some g → g ≠ d := fun g hg e => by have := (hown5.lt g hg).1; omega
                have hD6 : StrAt 123 w6 d (r.drop (2 * 64)) := (hD5.alloc _).keeps (hgrow6.block d (by simp; have := hD5.lt; omega) (fun e => hdo d e.symm rfl))
                go_roundw
                case rel =>
                  refine ⟨r.drop (2 * 64), m, acc ++ [⟨y, true, tab2 r⟩], ?_, hD6, hG6, by simp; omega, by simp; omega, by simp; omega, fun e => by simp at e, by rw [HQ3.out, if_neg (fun e => by rw [e] at hn2; simp at hn2)]; rfl⟩
                  rw [List.flatMap_append, List.length_append]
                  simpa using hown6
                case measure => rw [strLen_at hD6, strLen_at hd]; simp; omega
              · rw [hzero, if_pos rfl] at hq3
                have HQ3 := Lib.hid hq3; clear hq3 hzero
                go_wp2_with fail
                go_ret2
                rw [HQ3.out]
                exact ⟨rfl, grown_after gr1 hG5⟩
end Go.Proofs.YtjfgfoeenajneaaGreatDoor.Sg
