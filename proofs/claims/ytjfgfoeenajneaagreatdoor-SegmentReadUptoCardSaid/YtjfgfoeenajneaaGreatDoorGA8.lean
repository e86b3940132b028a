/- The document's bytes of tables of steps. The document's bytes of tables of codes. -/
import Derived.Test.YtjfgfoeenajneaaGreatDoorGA4
import Derived.Test.YtjfgfoeenajneaaGreatDoorGA6
import Derived.Test.YtjfgfoeenajneaaGreatDoorGA7
namespace Go.Proofs.YtjfgfoeenajneaaGreatDoor.Sg
open Go.RowKit

theorem flat_length {α : Type} (f : α → List Value) (s : Nat) : ∀ (l : List α), (∀ a ∈ l, (f a).length = s) → (l.flatMap f).length = l.length * s
  | [], _ => by simp
  | a :: l, h => by
    rw [List.flatMap_cons, List.length_append, flat_length f s l (fun x hx => h x (by simp [hx])), h a (by simp), List.length_cons, Nat.succ_mul, Nat.add_comm]
theorem flat_get {α : Type} (f : α → List Value) (s : Nat) : ∀ (l : List α), (∀ a ∈ l, (f a).length = s) → ∀ (k i : Nat) (a : α), l[k]? = some a → i < s → (l.flatMap f)[k * s + i]? = (f a)[i]?
  | [], _, k, i, a, hk, _ => by simp at hk
  | c :: l, h, 0, i, a, hk, hi => by
    obtain rfl : c = a := by simpa using hk
    rw [List.flatMap_cons, Nat.zero_mul, Nat.zero_add, List.getElem?_append_left (by rw [h c (by simp)]; exact hi)]
  | c :: l, h, k + 1, i, a, hk, hi => by
    have hc := h c (by simp)
    rw [List.flatMap_cons, List.getElem?_append_right (by rw [hc, Nat.succ_mul]; omega), hc, show (k + 1) * s + i - s = k * s + i by rw [Nat.succ_mul]; omega]
    exact flat_get f s l (fun x hx => h x (by simp [hx])) k i a (by simpa using hk) hi
theorem rows_at {α : Type} {f : α → List Value} {s : Nat} {w : World} {A : Option Addr} {n : Nat} {l : List α} (hs : 0 < s) (hf : ∀ a ∈ l, (f a).length = s) (h : Rows s w A n (l.flatMap f)) :
    l.length = n ∧ (0 < n → ∃ b o, A = some ⟨b, o, none⟩ ∧ ∀ k a, l[k]? = some a → w.rangeAt b (o + k * s) (f a)) := by
  have hl := flat_length f s l hf
  have hn : l.length = n := by
    have h9 := h.1
    rw [hl] at h9
    exact Nat.eq_of_mul_eq_mul_right hs h9
  refine ⟨hn, fun h0 => ?_⟩
  obtain ⟨b, o, hA, hc⟩ := h.2 h0
  refine ⟨b, o, hA, fun k a hk j v hv => ?_⟩
  have ha : a ∈ l := List.mem_of_getElem? hk
  have hj : j < s := by rw [← hf a ha]; exact (List.getElem?_eq_some_iff.1 hv).1
  have hkn : k < n := by rw [← hn]; exact (List.getElem?_eq_some_iff.1 hk).1
  have hks : k * s + s ≤ n * s := by rw [← Nat.succ_mul]; exact Nat.mul_le_mul_right s hkn
  rw [Nat.add_assoc, hc (k * s + j) (by omega), flat_get f s l hf k j a hk hj, hv]
theorem range_below {w w' : World} {b o : Nat} {xs : List Value} (h : w.rangeAt b o xs) (hb : Below w.heap.size w w') : w'.rangeAt b o xs := fun j v hv => below_cell hb (h j v hv)
/-- a table of steps as it may lie in memory -/
def QuantOk (q : QuantM) : Prop := q.id < 256 ∧ q.tab.length = 64 ∧ ∀ x ∈ q.tab, x < 65536
/-- what is written of a table behind k steps -/
def quantW (q : QuantM) (k : Nat) : List UInt8 := if q.wide then UInt8.ofNat (16 + q.id) :: (q.tab.take k).flatMap num2 else UInt8.ofNat q.id :: (q.tab.take k).map UInt8.ofNat
theorem quantW_all {q : QuantM} (h : q.tab.length = 64) : quantW q 64 = quantB q := by
  unfold quantW quantB
  rw [List.take_of_length_le (by omega)]
theorem quantW_next {q : QuantM} {k : Nat} (h : k < q.tab.length) : quantW q (k + 1) = quantW q k ++ (if q.wide then num2 (q.tab.getD k 0) else [UInt8.ofNat (q.tab.getD k 0)]) := by
  unfold quantW
  rw [List.take_succ_eq_append_getElem h, List.getD_eq_getElem?_getD, List.getElem?_eq_getElem h]
  cases q.wide <;> simp only [Bool.false_eq_true, if_false, if_true, List.map_append, List.cons_append, List.map_cons, List.map_nil, List.flatMap_append, List.flatMap_cons, List.flatMap_nil, List.append_nil, Option.getD_some]
theorem quantW_len (q : QuantM) : ∀ k, k ≤ q.tab.length → (quantW q k).length ≤ 1 + 2 * k
  | 0, _ => by unfold quantW; cases q.wide <;> simp
  | k + 1, h => by
    have ih := quantW_len q k (by omega)
    rw [quantW_next h, List.length_append]
    cases q.wide
    · simp; omega
    · simp [num2]; omega
theorem quants_len {l : List QuantM} (h : ∀ q ∈ l, QuantOk q) : (l.flatMap quantB).length ≤ l.length * 129 := by
  induction l with
  | nil => simp
  | cons q l ih =>
    have h1 := quantW_len q 64 (by rw [(h q (by simp)).2.1]; exact Nat.le_refl _)
    rw [quantW_all (h q (by simp)).2.1] at h1
    have h2 := ih fun x hx => h x (by simp [hx])
    rw [List.flatMap_cons, List.length_append, List.length_cons, Nat.succ_mul]
    omega
theorem take_next {α : Type} {l : List α} {k : Nat} {a : α} (h : l[k]? = some a) : l.take (k + 1) = l.take k ++ [a] := by
  obtain ⟨hk, rfl⟩ := List.getElem?_eq_some_iff.1 h
  exact List.take_succ_eq_append_getElem hk
theorem size_Bs2 (x y : List UInt8) (h : x.length + y.length ≤ 4611686018427387904) : ¬ ((Bs x).size + (Bs y).size > 9223372036854775807) := by rw [Bs_size, Bs_size]; omega
/-- a string, or an error -/
def StrP (w : World) (r : Res (List UInt8)) (e : Ending) (w' : World) : Prop :=
  (match r with
  | .bad c => e = .returned (.tuple #[.string (Bs []), .int .i64 (c : Nat)])
  | .ok t => e = .returned (.tuple #[.string (Bs t), .int .i64 0])) ∧ Below w.heap.size w w'
theorem getD_mem {l : List Nat} {k : Nat} (h : k < l.length) : l.getD k 0 ∈ l := by
  rw [List.getD_eq_getElem?_getD, List.getElem?_eq_getElem h]
  exact List.getElem_mem h
def quantT (l : List QuantM) : Res (List UInt8) := if l.any quantBad then .bad 153 else if l = [] then .bad 152 else .ok (l.flatMap quantB)
theorem empty_Bs : (Value.string (ByteArray.mk #[])) = .string (Bs []) := rfl
theorem size66q {q : QuantM} (h : q.tab.length = 64) : (Tryz.prog.info? 81).map (·.size) = some (quantC q).length := by rw [quantC_length q h]; exact size66
set_option maxRecDepth 100000 in
set_option maxHeartbeats 16000000 in
theorem quantText_any (l : List QuantM) (A : Option Addr) (n cap : Nat) (w : World) (hr : Rows 66 w A n (l.flatMap quantC)) (hq : ∀ q ∈ l, QuantOk q) (hn : n ≤ 1152921504606) :
    Calls Tryz.prog 82 #[.slice A n cap] w (StrP w (quantT l)) := by
  obtain ⟨hln, hat⟩ := rows_at (by decide) (fun q hm => quantC_length q (hq q hm).2.1) hr
  have HAT := Lib.hid hat; clear hat hr
  have HQ := Lib.hid hq; clear hq
  have HLN := Lib.hid hln; clear hln
  go_enter Tryz.func82, Tryz.ntmps82
  go_wp2_with fail
  go_loopw [4, 5] (fun t i wr => ∃ k : Nat, k ≤ n ∧ i = .int .i64 k ∧ t = .string (Bs ((l.take k).flatMap quantB)) ∧ (l.take k).any quantBad = false ∧ Below w.heap.size w wr) (fun _ i _ => n - (intOf i).toNat)
  case atStart => exact ⟨0, by omega, rfl, rfl, rfl, Below.refl _ _⟩
  case round =>
    obtain ⟨k, hk, rfl, rfl, hbad, hb⟩ := hrel
    have HBAD := Lib.hid hbad; clear hbad
    by_cases hlt : k < n
    · obtain ⟨b, o, rfl, hat⟩ := HAT.out (by omega)
      obtain ⟨q, hqk⟩ : ∃ q, l[k]? = some q := ⟨l[k]'(by rw [HLN.out]; exact hlt), List.getElem?_eq_getElem _⟩
      have hok := HQ.out q (List.mem_of_getElem? hqk)
      obtain ⟨hid, htl, htv⟩ := hok
      have HRE := Lib.hid (range_below (hat k q hqk) hb)
      have HS66 := Lib.hid (size66q htl)
      have hi1 : (Tryz.prog.info? 81).map (·.size) = some (quantC q).toArray.size := by rw [List.size_toArray]; exact size66q htl
      have hi2 : Tryz.zeroCells81.size = (quantC q).toArray.size := by rw [zq, List.size_toArray, List.size_toArray, quantC_length q htl, quantF_length _ _ _ _ (by omega) (.inr rfl)]
      have hi3 : (quantC q).toArray.all (·.oneCell') = true := by
        rw [Array.all_eq_true_iff_forall_mem]
        intro u hu
        exact quantC_one q u (by simpa using hu)
      have HI := Lib.hid (And.intro hi1 (And.intro hi2 hi3)); clear hi1 hi2 hi3
      have hlen := quants_len (l := l.take k) (fun x hx => HQ.out x (List.mem_of_mem_take hx))
      rw [List.length_take] at hlen
      have hanyn : (l.take (k + 1)).any quantBad = quantBad q := by rw [take_next hqk, List.any_append, HBAD.out]; simp
      have hflat : (l.take (k + 1)).flatMap quantB = (l.take k).flatMap quantB ++ quantB q := by rw [take_next hqk, List.flatMap_append]; simp
      have HNX := Lib.hid (And.intro hanyn hflat); clear hanyn hflat
      generalize (l.take k).flatMap quantB = t at hlen HNX ⊢
      have HQK := Lib.hid hqk; clear hqk hat
      have hlen' : t.length ≤ 148726874094174 := by omega
      clear hlen
      go_upto_region 6 with (first | (refine wpList_load_mid rfl _ _ rfl b (o + k * 66) rfl _ _ HRE.out Tryz.underlying81 rfl HS66.out ?_) | (refine wpList_store_row rfl _ _ _ rfl _ _ rfl rfl _ _ (Blk.new wr _ _) HI.out.1 HI.out.2.1 HI.out.2.2 ?_))
      have hq2 : Blk ((wr.alloc (.cells Tryz.zeroCells81 81)).setRow wr.heap.size (quantC q).toArray) wr.heap.size 81 (quantC q).toArray := (Blk.new wr _ _).row
      have hb2 : Below wr.heap.size wr ((wr.alloc (.cells Tryz.zeroCells81 81)).setRow wr.heap.size (quantC q).toArray) := grown_below (grown_row (grown_alloc (grown_of_below (Below.refl _ _) none) _) (.inl (Nat.le_refl _)) _)
      generalize ((wr.alloc (.cells Tryz.zeroCells81 81)).setRow wr.heap.size (quantC q).toArray) = w2 at hq2 hb2 ⊢
      have hqs : wr.heap.size ≤ wr.heap.size := Nat.le_refl _
      generalize hgg : wr.heap.size = g at hq2 ⊢
      have HGG := Lib.hid hgg; clear hgg hqs
      have hb3 := below_then hb hb2
      clear hb hb2
      have hs64 : (Tryz.prog.info? 79).map (·.size) = some (q.tab.map fun (n : Nat) => Value.int .u16 (n : Int)).length := by rw [List.length_map, htl]; exact size64
      have HS64 := Lib.hid hs64; clear hs64
      have HRG := Lib.hid (Blk.range hq2 2 _ (tabs_range q))
      have e0 : w2.cell? ⟨g, 0, none⟩ = some (.int .u8 (q.id : Nat)) := by rw [hq2.cell]; rfl
      have e1 : w2.cell? ⟨g, 1, none⟩ = some (.bool q.wide) := by rw [hq2.cell]; rfl
      have HTL := Lib.hid htl
      have HTV := Lib.hid htv; clear htv htl
      go_upto_region 7 with (refine wpList_load_mid rfl _ _ rfl g 2 rfl _ _ HRG.out Tryz.underlying79 rfl HS64.out ?_)
      refine (zero_any q.tab w2 HTL.out).mono ?_
      rintro e w3 ⟨rfl, hb4⟩
      have hq3 := hq2.kept hb4
      have HRG3 := Lib.hid (Blk.range hq3 2 _ (tabs_range q)); clear HRG
      have e0' := below_cell hb4 e0
      have e1' := below_cell hb4 e1
      have hb5 := below_then hb3 hb4
      clear hb3 hb4 hq2 e0 e1
      go_upto_region 8 with (refine wpList_load_mid rfl _ _ rfl g 2 rfl _ _ HRG3.out Tryz.underlying79 rfl HS64.out ?_)
      refine (wide_any q.tab w3 HTL.out).mono ?_
      rintro e w4 ⟨rfl, hb4⟩
      have hq4 := hq3.kept hb4
      have e0 := below_cell hb4 e0'
      have e1 := below_cell hb4 e1'
      have hb6 := below_then hb5 hb4
      clear hb4 hb5 hq3 e0' e1' HRG3
      have hbd : quantBad q = (decide (3 < q.id) || zeroM q.tab || (largeM q.tab && !q.wide)) := rfl
      have ht3 : ∀ j, j < 64 → w4.cell? ⟨g, 2 + j, none⟩ = some (.int .u16 (q.tab.getD j 0 : Nat)) := fun j hj => by
        rw [hq4.cell]
        unfold quantC
        rw [List.getElem?_toArray, show 2 + j = (j + 1) + 1 by omega, List.getElem?_cons_succ, List.getElem?_cons_succ, List.getElem?_map, List.getD_eq_getElem?_getD, List.getElem?_eq_getElem (by rw [HTL.out]; exact hj)]
        rfl
      have HT3 := Lib.hid ht3; clear ht3 hq4
      have hla : largeM q.tab = false → ∀ x ∈ q.tab, x ≤ 255 := fun h x hx => by
        unfold largeM at h
        rw [List.any_eq_false] at h
        have := h x hx
        simpa using this
      generalize zeroM q.tab = Z at hbd ⊢
      generalize largeM q.tab = L at hbd hla ⊢
      generalize hww : q.wide = W at hbd e1 ⊢
      have HWW := Lib.hid hww; clear hww
      have hfin : quantBad q = true → quantT l = .bad 153 := fun h => by
        have h9 := any_of_take (HNX.out.1.trans h)
        unfold quantT
        rw [h9]
        rfl
      have HFIN := Lib.hid hfin; clear hfin
      by_cases h3 : 3 < q.id
      · have hres := HFIN.out (by rw [hbd]; simp [h3])
        have HR := Lib.hid hres; clear hres hbd
        go_wp2_with fail
        go_ret2
        exact ⟨by rw [HR.out]; rfl, hb6⟩
      cases Z
      case true =>
        have hres := HFIN.out (by rw [hbd]; simp)
        have HR := Lib.hid hres; clear hres hbd
        go_wp2_with fail
        go_ret2
        exact ⟨by rw [HR.out]; rfl, hb6⟩
      have e1w := e1
      cases L
      case false =>
        have HLA := Lib.hid (hla rfl); clear hla
        have HBD := Lib.hid (show quantBad q = false by rw [hbd]; simp [h3]); clear hbd
        cases W
        case false =>
          have hgood : quantBad q = false := HBD.out
          have hql : ∀ x ∈ q.tab, x ≤ 255 := HLA.out
          have HQL := Lib.hid hql; clear hql
          have HG := Lib.hid hgood; clear hgood
          go_wp2_with fail
          refine (byteOf_any (q.id) w4 (by omega)).mono ?_
          rintro e w5 ⟨rfl, hb7⟩
          generalize hB : UInt8.ofNat (q.id) = B
          have HB := Lib.hid hB; clear hB
          have hss := size_Bs2 t [B] (by simp; omega)
          go_wp2_with fail
          rw [Bs_append]
          clear hss e0 e1
          have e1 := below_cell hb7 e1w
          have hb9 := below_then hb6 hb7
          clear e1w hb6
          have HT4 := Lib.hid (fun j hj => below_cell hb7 (HT3.out j hj)); clear hb7
          have hw0 : t ++ [B] = t ++ quantW q 0 := by rw [← HB.out]; unfold quantW; rw [HWW.out]; rfl
          rw [hw0]
          clear hw0
          go_loopw [4, 9] (fun s j wr2 => ∃ i : Nat, i ≤ 64 ∧ j = .int .i64 i ∧ s = .string (Bs (t ++ quantW q i)) ∧ Below w5.heap.size w5 wr2) (fun _ j _ => 64 - (intOf j).toNat)
          case atStart => exact ⟨0, by omega, rfl, rfl, Below.refl _ _⟩
          case round =>
            obtain ⟨i, hi, rfl, rfl, hbi⟩ := hrel
            have hlenW := quantW_len q i (by rw [HTL.out]; exact hi)
            by_cases hlt2 : i < 64
            · have c1 := below_cell hbi e1
              have c2 := below_cell hbi (HT4.out i hlt2)
              have hxb := HQL.out _ (getD_mem (l := q.tab) (k := i) (by rw [HTL.out]; exact hlt2))
              have hW := quantW_next (q := q) (k := i) (by rw [HTL.out]; exact hlt2)
              rw [HWW.out] at hW
              generalize q.tab.getD i 0 = x at c2 hxb hW
              have hxi : (x : Int) ≤ 255 := by omega
              have HWN := Lib.hid hW; clear hW
              generalize quantW q i = u at hlenW HWN ⊢
              go_wp2_with fail
              refine (byteOf_any x wr (by omega)).mono ?_
              rintro e w6 ⟨rfl, hb8⟩
              generalize hB2 : [UInt8.ofNat x] = B2
              have HB2 := Lib.hid hB2; clear hB2
              have hB2l : B2.length ≤ 2 := by rw [← HB2.out]; simp
              have hss := size_Bs2 (t ++ u) B2 (by rw [List.length_append]; omega)
              clear hB2l
              go_wp2_with fail
              rw [Bs_append, List.append_assoc]
              go_roundw
              case rel => exact ⟨i + 1, by omega, by go_num, by rw [HWN.out, ← HB2.out]; rfl, below_then hbi hb8⟩
              case measure => simp [intOf]; omega
            · obtain rfl : i = 64 := by omega
              have c1 := e1
              rw [quantW_all HTL.out, ← HNX.out.2]
              have hbk := below_then hb9 hbi
              clear e1 c1 hbi hb9 hlenW
              generalize hss : (l.take (k + 1)).flatMap quantB = tt
              have HSS := Lib.hid hss; clear hss
              go_wp2_with fail
              go_roundw
              case rel => exact ⟨k + 1, by omega, by go_num, by rw [HSS.out], by rw [HNX.out.1]; exact HG.out, hbk⟩
              case measure => simp [intOf]; omega
        case true =>
          have hgood : quantBad q = false := HBD.out
          have hql : ∀ x ∈ q.tab, x ≤ 65535 := fun x hx => by have := HTV.out x hx; omega
          have HQL := Lib.hid hql; clear hql
          have HG := Lib.hid hgood; clear hgood
          go_wp2_with fail
          rw [show (16 + (q.id : Int)) = ((16 + q.id : Nat) : Int) by omega]
          refine (byteOf_any (16 + q.id) w4 (by omega)).mono ?_
          rintro e w5 ⟨rfl, hb7⟩
          generalize hB : UInt8.ofNat (16 + q.id) = B
          have HB := Lib.hid hB; clear hB
          have hss := size_Bs2 t [B] (by simp; omega)
          go_wp2_with fail
          rw [Bs_append]
          clear hss e0 e1
          have e1 := below_cell hb7 e1w
          have hb9 := below_then hb6 hb7
          clear e1w hb6
          have HT4 := Lib.hid (fun j hj => below_cell hb7 (HT3.out j hj)); clear hb7
          have hw0 : t ++ [B] = t ++ quantW q 0 := by rw [← HB.out]; unfold quantW; rw [HWW.out]; rfl
          rw [hw0]
          clear hw0
          go_loopw [4, 9] (fun s j wr2 => ∃ i : Nat, i ≤ 64 ∧ j = .int .i64 i ∧ s = .string (Bs (t ++ quantW q i)) ∧ Below w5.heap.size w5 wr2) (fun _ j _ => 64 - (intOf j).toNat)
          case atStart => exact ⟨0, by omega, rfl, rfl, Below.refl _ _⟩
          case round =>
            obtain ⟨i, hi, rfl, rfl, hbi⟩ := hrel
            have hlenW := quantW_len q i (by rw [HTL.out]; exact hi)
            by_cases hlt2 : i < 64
            · have c1 := below_cell hbi e1
              have c2 := below_cell hbi (HT4.out i hlt2)
              have hxb := HQL.out _ (getD_mem (l := q.tab) (k := i) (by rw [HTL.out]; exact hlt2))
              have hW := quantW_next (q := q) (k := i) (by rw [HTL.out]; exact hlt2)
              rw [HWW.out] at hW
              generalize q.tab.getD i 0 = x at c2 hxb hW
              have hxi : (x : Int) ≤ 65535 := by omega
              have HWN := Lib.hid hW; clear hW
              generalize quantW q i = u at hlenW HWN ⊢
              go_wp2_with fail
              refine (number_any (x : Int) wr (by omega) (by omega)).mono ?_
              rintro e w6 ⟨u, rfl, hu, hb8⟩
              have hu9 := hu.2 (by omega) (by omega)
              rw [Int.toNat_natCast] at hu9
              subst hu9
              generalize hB2 : num2 x = B2
              have HB2 := Lib.hid hB2; clear hB2
              have hB2l : B2.length ≤ 2 := by rw [← HB2.out]; simp [num2]
              have hss := size_Bs2 (t ++ u) B2 (by rw [List.length_append]; omega)
              clear hB2l
              go_wp2_with fail
              rw [Bs_append, List.append_assoc]
              go_roundw
              case rel => exact ⟨i + 1, by omega, by go_num, by rw [HWN.out, ← HB2.out]; rfl, below_then hbi hb8⟩
              case measure => simp [intOf]; omega
            · obtain rfl : i = 64 := by omega
              have c1 := e1
              rw [quantW_all HTL.out, ← HNX.out.2]
              have hbk := below_then hb9 hbi
              clear e1 c1 hbi hb9 hlenW
              generalize hss : (l.take (k + 1)).flatMap quantB = tt
              have HSS := Lib.hid hss; clear hss
              go_wp2_with fail
              go_roundw
              case rel => exact ⟨k + 1, by omega, by go_num, by rw [HSS.out], by rw [HNX.out.1]; exact HG.out, hbk⟩
              case measure => simp [intOf]; omega
      case true =>
        clear hla
        cases W
        case false =>
          have hres := HFIN.out (by rw [hbd]; simp)
          have HR := Lib.hid hres; clear hres hbd
          go_wp2_with fail
          go_ret2
          exact ⟨by rw [HR.out]; rfl, hb6⟩
        case true =>
          have HBD := Lib.hid (show quantBad q = false by rw [hbd]; simp [h3]); clear hbd
          have hgood : quantBad q = false := HBD.out
          have hql : ∀ x ∈ q.tab, x ≤ 65535 := fun x hx => by have := HTV.out x hx; omega
          have HQL := Lib.hid hql; clear hql
          have HG := Lib.hid hgood; clear hgood
          go_wp2_with fail
          rw [show (16 + (q.id : Int)) = ((16 + q.id : Nat) : Int) by omega]
          refine (byteOf_any (16 + q.id) w4 (by omega)).mono ?_
          rintro e w5 ⟨rfl, hb7⟩
          generalize hB : UInt8.ofNat (16 + q.id) = B
          have HB := Lib.hid hB; clear hB
          have hss := size_Bs2 t [B] (by simp; omega)
          go_wp2_with fail
          rw [Bs_append]
          clear hss e0 e1
          have e1 := below_cell hb7 e1w
          have hb9 := below_then hb6 hb7
          clear e1w hb6
          have HT4 := Lib.hid (fun j hj => below_cell hb7 (HT3.out j hj)); clear hb7
          have hw0 : t ++ [B] = t ++ quantW q 0 := by rw [← HB.out]; unfold quantW; rw [HWW.out]; rfl
          rw [hw0]
          clear hw0
          go_loopw [4, 9] (fun s j wr2 => ∃ i : Nat, i ≤ 64 ∧ j = .int .i64 i ∧ s = .string (Bs (t ++ quantW q i)) ∧ Below w5.heap.size w5 wr2) (fun _ j _ => 64 - (intOf j).toNat)
          case atStart => exact ⟨0, by omega, rfl, rfl, Below.refl _ _⟩
          case round =>
            obtain ⟨i, hi, rfl, rfl, hbi⟩ := hrel
            have hlenW := quantW_len q i (by rw [HTL.out]; exact hi)
            by_cases hlt2 : i < 64
            · have c1 := below_cell hbi e1
              have c2 := below_cell hbi (HT4.out i hlt2)
              have hxb := HQL.out _ (getD_mem (l := q.tab) (k := i) (by rw [HTL.out]; exact hlt2))
              have hW := quantW_next (q := q) (k := i) (by rw [HTL.out]; exact hlt2)
              rw [HWW.out] at hW
              generalize q.tab.getD i 0 = x at c2 hxb hW
              have hxi : (x : Int) ≤ 65535 := by omega
              have HWN := Lib.hid hW; clear hW
              generalize quantW q i = u at hlenW HWN ⊢
              go_wp2_with fail
              refine (number_any (x : Int) wr (by omega) (by omega)).mono ?_
              rintro e w6 ⟨u, rfl, hu, hb8⟩
              have hu9 := hu.2 (by omega) (by omega)
              rw [Int.toNat_natCast] at hu9
              subst hu9
              generalize hB2 : num2 x = B2
              have HB2 := Lib.hid hB2; clear hB2
              have hB2l : B2.length ≤ 2 := by rw [← HB2.out]; simp [num2]
              have hss := size_Bs2 (t ++ u) B2 (by rw [List.length_append]; omega)
              clear hB2l
              go_wp2_with fail
              rw [Bs_append, List.append_assoc]
              go_roundw
              case rel => exact ⟨i + 1, by omega, by go_num, by rw [HWN.out, ← HB2.out]; rfl, below_then hbi hb8⟩
              case measure => simp [intOf]; omega
            · obtain rfl : i = 64 := by omega
              have c1 := e1
              rw [quantW_all HTL.out, ← HNX.out.2]
              have hbk := below_then hb9 hbi
              clear e1 c1 hbi hb9 hlenW
              generalize hss : (l.take (k + 1)).flatMap quantB = tt
              have HSS := Lib.hid hss; clear hss
              go_wp2_with fail
              go_roundw
              case rel => exact ⟨k + 1, by omega, by go_num, by rw [HSS.out], by rw [HNX.out.1]; exact HG.out, hbk⟩
              case measure => simp [intOf]; omega
    · obtain rfl : k = n := by omega
      have hall : l.take k = l := List.take_of_length_le (by rw [HLN.out]; exact Nat.le_refl _)
      rw [hall]
      have hb9 := HBAD.out
      rw [hall] at hb9
      clear hall
      by_cases h0 : k = 0
      · subst h0
        have hl0 : l = [] := List.eq_nil_of_length_eq_zero HLN.out
        have HL0 := Lib.hid hl0; clear hl0
        generalize hss : l.flatMap quantB = tt
        have HSS := Lib.hid hss; clear hss hb9
        go_wp2_with fail
        go_ret2
        refine ⟨?_, hb⟩
        rw [HL0.out]
        rfl
      · have hl0 : l ≠ [] := fun e => by have := HLN.out; rw [e] at this; simp at this; omega
        have HL0 := Lib.hid (And.intro hl0 hb9); clear hl0 hb9
        have h0' : ((k : Int) == 0) = false := beq_false_of_ne (by omega)
        have h0n : ¬ (k : Int) = 0 := by omega
        have h0m : (k == 0) = false := beq_false_of_ne h0
        generalize hss : l.flatMap quantB = tt
        have HSS := Lib.hid hss; clear hss
        go_wp2_with fail
        go_ret2
        refine ⟨?_, hb⟩
        unfold quantT
        rw [HL0.out.2, if_neg (by simp), if_neg HL0.out.1, HSS.out]
        rfl
end Go.Proofs.YtjfgfoeenajneaaGreatDoor.Sg
namespace Go.Proofs.YtjfgfoeenajneaaGreatDoor.Sg
open Go.RowKit

/-- the cells of a table of codes, its values a slice -/
def huffC (p : HuffM × Value) : List Value := .int .u8 (p.1.cls : Nat) :: .int .u8 (p.1.id : Nat) :: specC p.1.cnt p.2
structure HuffOk (h : HuffM) : Prop where
  cls : h.cls < 256
  id : h.id < 256
  len : h.cnt.length = 16
  cnt : ∀ x ∈ h.cnt, x < 256
  vals : ∀ x ∈ h.vals, x < 256
  few : h.vals.length ≤ 1152921504606846976
theorem conv_empty (A : Option Addr) (c : Nat) (w : World) : (convert 29 9 (.slice A 0 c)).run Tryz.prog w = .ok (.string (Bs [])) w := by
  rw [run_convert_bytes_string w 29 9 5 _ _ _ Tryz.underlying29 Tryz.underlying5 Tryz.underlying9]
  cases A <;> rfl
theorem conv_any (A : Option Addr) (n cap : Nat) (l : List UInt8) (w : World) (h : Sl w A n (u8s (nats l))) : (convert 29 9 (.slice A n cap)).run Tryz.prog w = .ok (.string (Bs l)) w := by
  have hn : l.length = n := by have := h.1; rw [u8s_length] at this; simpa [nats] using this
  subst hn
  by_cases h0 : l.length = 0
  · obtain rfl : l = [] := List.eq_nil_of_length_eq_zero h0
    exact conv_empty A cap w
  · obtain ⟨b, o, rfl, hc⟩ := h.2 (by omega)
    exact conv_row b o cap l w hc
/-- bytes behind a slice -/
def SlB (w : World) (v : Value) (t : List Nat) : Prop := ∃ A c, v = .slice A t.length c ∧ Sl w A t.length (u8s t) ∧ True
theorem SlB.below {w w' : World} {v : Value} {t : List Nat} (h : SlB w v t) (hb : Below w.heap.size w w') : SlB w' v t := by
  obtain ⟨A, c, hv, hs, h0⟩ := h
  exact ⟨A, c, hv, hs.below hb, h0⟩
theorem huffC_length {p : HuffM × Value} (h : p.1.cnt.length = 16) : (huffC p).length = 19 := by
  unfold huffC specC
  simp [u8s_length, h]
theorem huffC_one (p : HuffM × Value) (h : p.2.oneCell' = true) : ∀ u ∈ huffC p, u.oneCell' = true := by
  intro u hu
  unfold huffC specC u8s at hu
  simp only [List.mem_cons, List.mem_append, List.mem_map, List.not_mem_nil, or_false] at hu
  rcases hu with rfl | rfl | ⟨n, _, rfl⟩ | rfl
  · rfl
  · rfl
  · rfl
  · exact h
theorem huffC_spec (p : HuffM × Value) : ((huffC p).toArray.toList.drop 2).take (specC p.1.cnt p.2).length = specC p.1.cnt p.2 := by
  unfold huffC
  simp
theorem huffC_cnt {p : HuffM × Value} {j : Nat} (h : p.1.cnt.length = 16) (hj : j < 16) : (huffC p).toArray[2 + j]? = some (.int .u8 (p.1.cnt.getD j 0 : Nat)) := by
  have h9 := specC_cnt (cnt := p.1.cnt) (v := p.2) (k := j) (by omega)
  rw [List.getElem?_toArray] at h9 ⊢
  unfold huffC
  rw [show 2 + j = (j + 1) + 1 by omega, List.getElem?_cons_succ, List.getElem?_cons_succ, h9]
theorem huffC_val {p : HuffM × Value} (h : p.1.cnt.length = 16) : (huffC p).toArray[18]? = some p.2 := by
  have h9 := specC_val (v := p.2) h
  rw [List.getElem?_toArray] at h9 ⊢
  unfold huffC
  rw [List.getElem?_cons_succ, List.getElem?_cons_succ, h9]
theorem size19 : (Tryz.prog.info? 87).map (·.size) = some 19 := by kernel_rfl
theorem size17 : (Tryz.prog.info? 85).map (·.size) = some 17 := by kernel_rfl
def huffW (h : HuffM) (k : Nat) : List UInt8 := UInt8.ofNat (16 * h.cls + h.id) :: (h.cnt.take k).map UInt8.ofNat
theorem huffW_next {h : HuffM} {k : Nat} (hk : k < h.cnt.length) : huffW h (k + 1) = huffW h k ++ [UInt8.ofNat (h.cnt.getD k 0)] := by
  unfold huffW
  rw [List.take_succ_eq_append_getElem hk, List.getD_eq_getElem?_getD, List.getElem?_eq_getElem hk]
  simp only [List.map_append, List.cons_append, List.map_cons, List.map_nil, Option.getD_some]
theorem huffW_len (h : HuffM) (k : Nat) : (huffW h k).length ≤ 1 + k := by
  unfold huffW
  rw [List.length_cons, List.length_map, List.length_take]
  omega
theorem huffW_all {h : HuffM} (hc : h.cnt.length = 16) : huffW h 16 ++ h.vals.map UInt8.ofNat = huffB h := by
  unfold huffW huffB
  rw [List.take_of_length_le (by omega)]
  simp
theorem nats_of {t : List Nat} (h : ∀ x ∈ t, x < 256) : nats (t.map UInt8.ofNat) = t := by
  unfold nats
  rw [List.map_map]
  conv => rhs; rw [← List.map_id t]
  apply List.map_congr_left
  intro x hx
  have := h x hx
  simp
  omega
theorem wpList_load_mid_g {P : Program} {ops : Array Oper} {rest : List Oper} {op : Oper} {a : Act} {w : World} {Q : Exit → Act → World → Prop} (hw : Region.wanted op (yielded ops a.tmps) = true) (ty : TypeId) (x : Operand) (ho : op.op = .load ty x)
    (b o : Nat) (hx : a.eval x = .pointer (some ⟨b, o, none⟩)) (cs : List Value) (d : TypeDesc) (hc : w.rangeAt b o cs)
    (hu : P.underlying ty = some d) (hd : d.isRow = true) (hi : (P.info? ty).map (·.size) = some cs.length)
    (h : wpList P ops Q rest (a.put op.dst (.agg cs.toArray)) w) : wpList P ops Q (op :: rest) a w :=
  wpList_step fun K hK => by rw [if_pos hw]; exact wp_load_mid ty x ho b o hx cs d hc hu hd hi (hK _ _ h)
def huffT (l : List HuffM) : Res (List UInt8) := if l.any huffBad then .bad 153 else if l = [] then .bad 152 else .ok (l.flatMap huffB)
theorem huff_len {h : HuffM} (hb : huffBad h = false) (hc : h.cnt.length = 16) : (huffB h).length ≤ 273 := by
  have h1 : h.vals.length ≤ 256 := by
    unfold huffBad at hb
    simp only [Bool.or_eq_false_iff, Bool.not_eq_false'] at hb
    have := (huffOk_iff _ _).1 hb.2
    omega
  unfold huffB
  rw [List.length_cons, List.length_append, List.length_map, List.length_map]
  omega
theorem huffs_len : ∀ {l : List HuffM}, l.any huffBad = false → (∀ h ∈ l, h.cnt.length = 16) → (l.flatMap huffB).length ≤ l.length * 273
  | [], _, _ => by simp
  | h :: l, hb, hc => by
    rw [List.any_cons, Bool.or_eq_false_iff] at hb
    have h1 := huff_len hb.1 (hc h (by simp))
    have h2 := huffs_len hb.2 fun x hx => hc x (by simp [hx])
    rw [List.flatMap_cons, List.length_append, List.length_cons, Nat.succ_mul]
    omega
set_option maxRecDepth 100000 in
set_option maxHeartbeats 16000000 in
theorem huffText_any (ps : List (HuffM × Value)) (A : Option Addr) (n cap : Nat) (w : World) (hr : Rows 19 w A n (ps.flatMap huffC)) (hq : ∀ p ∈ ps, HuffOk p.1) (hv : ∀ p ∈ ps, SlB w p.2 p.1.vals) (hn : n ≤ 1152921504606) :
    Calls Tryz.prog 83 #[.slice A n cap] w (StrP w (huffT (ps.map (·.1)))) := by
  obtain ⟨hln, hat⟩ := rows_at (by decide) (fun p hm => huffC_length (hq p hm).len) hr
  have HAT := Lib.hid hat; clear hat hr
  have HQ := Lib.hid hq; clear hq
  have HV := Lib.hid hv; clear hv
  have HLN := Lib.hid hln; clear hln
  go_enter Tryz.func83, Tryz.ntmps83
  go_wp2_with fail
  go_loopw [4, 5] (fun t i wr => ∃ k : Nat, k ≤ n ∧ i = .int .i64 k ∧ t = .string (Bs (((ps.take k).map (·.1)).flatMap huffB)) ∧ ((ps.take k).map (·.1)).any huffBad = false ∧ Below w.heap.size w wr) (fun _ i _ => n - (intOf i).toNat)
  case atStart => exact ⟨0, by omega, rfl, rfl, rfl, Below.refl _ _⟩
  case round =>
    obtain ⟨k, hk, rfl, rfl, hbad, hb⟩ := hrel
    have HBAD := Lib.hid hbad; clear hbad
    by_cases hlt : k < n
    · obtain ⟨b, o, rfl, hat⟩ := HAT.out (by omega)
      obtain ⟨p, hqk⟩ : ∃ p, ps[k]? = some p := ⟨ps[k]'(by rw [HLN.out]; exact hlt), List.getElem?_eq_getElem _⟩
      have hok := HQ.out p (List.mem_of_getElem? hqk)
      have hsl := (HV.out p (List.mem_of_getElem? hqk)).below hb
      have HOK := Lib.hid hok
      obtain ⟨va, vc, hva, hvs, hv0⟩ := hsl
      have HRE := Lib.hid (range_below (hat k p hqk) hb)
      have HS19 := Lib.hid (show (Tryz.prog.info? 87).map (·.size) = some (huffC p).length by rw [huffC_length hok.len]; exact size19)
      have hi1 : (Tryz.prog.info? 87).map (·.size) = some (huffC p).toArray.size := by rw [List.size_toArray, huffC_length hok.len]; exact size19
      have hi2 : (#[.int .u8 0, .int .u8 0, .int .u8 0, .int .u8 0, .int .u8 0, .int .u8 0, .int .u8 0, .int .u8 0, .int .u8 0, .int .u8 0, .int .u8 0, .int .u8 0, .int .u8 0, .int .u8 0, .int .u8 0, .int .u8 0, .int .u8 0, .int .u8 0, .slice none 0 0] : Array Value).size = (huffC p).toArray.size := by rw [show (huffC p).toArray.size = 19 from by rw [List.size_toArray, huffC_length hok.len]]; rfl
      have hi3 : (huffC p).toArray.all (·.oneCell') = true := by
        rw [Array.all_eq_true_iff_forall_mem]
        intro u hu
        exact huffC_one p (by rw [hva]; rfl) u (by simpa using hu)
      have HI := Lib.hid (And.intro hi1 (And.intro hi2 hi3)); clear hi1 hi2 hi3
      have hlen := huffs_len HBAD.out (fun h hm => by
        rw [List.mem_map] at hm
        obtain ⟨x, hx, rfl⟩ := hm
        exact (HQ.out x (List.mem_of_mem_take hx)).len)
      rw [List.length_map, List.length_take] at hlen
      have hanyn : ((ps.take (k + 1)).map (·.1)).any huffBad = huffBad p.1 := by rw [take_next hqk, List.map_append, List.any_append, HBAD.out]; simp
      have hflat : ((ps.take (k + 1)).map (·.1)).flatMap huffB = ((ps.take k).map (·.1)).flatMap huffB ++ huffB p.1 := by rw [take_next hqk, List.map_append, List.flatMap_append]; simp
      have HNX := Lib.hid (And.intro hanyn hflat); clear hanyn hflat
      generalize ((ps.take k).map (·.1)).flatMap huffB = t at hlen HNX ⊢
      have HQK := Lib.hid hqk; clear hqk hat
      have hlen' : t.length ≤ 314747570757438 := by omega
      clear hlen hok
      go_upto_region 6 with (first | (refine wpList_load_mid rfl _ _ rfl b (o + k * 19) rfl _ _ HRE.out Tryz.underlying87 rfl HS19.out ?_) | (refine wpList_store_row rfl _ _ _ rfl _ _ rfl rfl _ _ (Blk.new wr _ _) HI.out.1 HI.out.2.1 HI.out.2.2 ?_))
      have hq2 : Blk ((wr.alloc (.cells #[.int .u8 0, .int .u8 0, .int .u8 0, .int .u8 0, .int .u8 0, .int .u8 0, .int .u8 0, .int .u8 0, .int .u8 0, .int .u8 0, .int .u8 0, .int .u8 0, .int .u8 0, .int .u8 0, .int .u8 0, .int .u8 0, .int .u8 0, .int .u8 0, .slice none 0 0] 87)).setRow wr.heap.size (huffC p).toArray) wr.heap.size 87 (huffC p).toArray := (Blk.new wr _ _).row
      have hb2 : Below wr.heap.size wr ((wr.alloc (.cells #[.int .u8 0, .int .u8 0, .int .u8 0, .int .u8 0, .int .u8 0, .int .u8 0, .int .u8 0, .int .u8 0, .int .u8 0, .int .u8 0, .int .u8 0, .int .u8 0, .int .u8 0, .int .u8 0, .int .u8 0, .int .u8 0, .int .u8 0, .int .u8 0, .slice none 0 0] 87)).setRow wr.heap.size (huffC p).toArray) := grown_below (grown_row (grown_alloc (grown_of_below (Below.refl _ _) none) _) (.inl (Nat.le_refl _)) _)
      generalize ((wr.alloc (.cells #[.int .u8 0, .int .u8 0, .int .u8 0, .int .u8 0, .int .u8 0, .int .u8 0, .int .u8 0, .int .u8 0, .int .u8 0, .int .u8 0, .int .u8 0, .int .u8 0, .int .u8 0, .int .u8 0, .int .u8 0, .int .u8 0, .int .u8 0, .int .u8 0, .slice none 0 0] 87)).setRow wr.heap.size (huffC p).toArray) = w2 at hq2 hb2 ⊢
      generalize hgg : wr.heap.size = g at hq2 ⊢
      have HGG := Lib.hid hgg; clear hgg
      have hvs2 := hvs.below hb2
      have hb3 := below_then hb hb2
      clear hb hb2 hvs
      have HS17 := Lib.hid (show (Tryz.prog.info? 85).map (·.size) = some (specC p.1.cnt p.2).length by
        unfold specC
        rw [List.length_append, u8s_length, HOK.out.len]
        exact size17)
      have HRG := Lib.hid (Blk.range hq2 2 _ (huffC_spec p))
      have e0 : w2.cell? ⟨g, 0, none⟩ = some (.int .u8 (p.1.cls : Nat)) := by rw [hq2.cell]; rfl
      have e1 : w2.cell? ⟨g, 1, none⟩ = some (.int .u8 (p.1.id : Nat)) := by rw [hq2.cell]; rfl
      have e18 : w2.cell? ⟨g, 18, none⟩ = some (.slice va p.1.vals.length vc) := by rw [hq2.cell, huffC_val HOK.out.len, hva]
      have HE18 := Lib.hid e18; clear e18
      have ht3 : ∀ j, j < 16 → w2.cell? ⟨g, 2 + j, none⟩ = some (.int .u8 (p.1.cnt.getD j 0 : Nat)) := fun j hj => by rw [hq2.cell, huffC_cnt HOK.out.len hj]
      have HT3 := Lib.hid ht3; clear ht3 hq2
      have hbd : huffBad p.1 = (decide (1 < p.1.cls) || decide (3 < p.1.id) || !huffOk p.1.cnt p.1.vals) := rfl
      have hfin : huffBad p.1 = true → huffT (ps.map (·.1)) = .bad 153 := fun h => by
        have h8 := HNX.out.1.trans h
        rw [List.map_take] at h8
        have h9 := any_of_take h8
        unfold huffT
        rw [h9]
        rfl
      have HFIN := Lib.hid hfin; clear hfin
      have HVA := Lib.hid hva; clear hva
      by_cases h1 : 1 < p.1.cls
      · have hres := HFIN.out (by rw [hbd]; simp [h1])
        have HR := Lib.hid hres; clear hres hbd
        go_wp2_with fail
        go_ret2
        exact ⟨by rw [HR.out]; rfl, hb3⟩
      by_cases h3 : 3 < p.1.id
      · have hres := HFIN.out (by rw [hbd]; simp [h3])
        have HR := Lib.hid hres; clear hres hbd
        go_wp2_with fail
        go_ret2
        exact ⟨by rw [HR.out]; rfl, hb3⟩
      have hbd2 : huffBad p.1 = !huffOk p.1.cnt p.1.vals := by rw [hbd]; simp [h1, h3]
      have HBD := Lib.hid hbd2; clear hbd hbd2
      have hd1 : decide (1 < (p.1.cls : Int)) = false := decide_eq_false (by omega)
      have hd3 : decide (3 < (p.1.id : Int)) = false := decide_eq_false (by omega)
      go_upto_region 7 with (refine wpList_load_mid_g (by first | rfl | simp [Region.wanted, yielded]) _ _ rfl g 2 rfl _ _ HRG.out Tryz.underlying85 rfl HS17.out ?_)
      rw [HVA.out]
      refine (check04_any p.1.cnt p.1.vals va p.1.vals.length vc w2 HOK.out.len HOK.out.cnt hvs2 HOK.out.vals HOK.out.few).mono ?_
      rintro e w4 ⟨c, rfl, hcz, hb4⟩
      have HCZ := Lib.hid hcz; clear hcz
      have e0' := below_cell hb4 e0
      have e1' := below_cell hb4 e1
      have HE18' := Lib.hid (below_cell hb4 HE18.out)
      have HT4 := Lib.hid (fun j hj => below_cell hb4 (HT3.out j hj))
      have hvs4 := hvs2.below hb4
      have hb6 := below_then hb3 hb4
      clear hb4 hb3 hvs2 HT3 HE18 e0 e1 HRG
      by_cases hc0 : c = 0
      case neg =>
        have hcn : huffOk p.1.cnt p.1.vals = false := by
          cases hh : huffOk p.1.cnt p.1.vals
          · rfl
          · exact absurd (HCZ.out.2 hh) hc0
        have hres := HFIN.out (by rw [HBD.out, hcn]; rfl)
        have HR := Lib.hid hres; clear hres hcn
        have hcb : ((c : Int) != 0) = true := by simpa using hc0
        have hcb2 : ¬ ((c : Int) = 0) := by omega
        go_wp2_with fail
        go_ret2
        exact ⟨by rw [HR.out]; rfl, hb6⟩
      subst hc0
      have hgood : huffBad p.1 = false := by rw [HBD.out, HCZ.out.1 rfl]; rfl
      have HGOOD := Lib.hid hgood; clear hgood HCZ
      go_wp2_with fail
      rw [show (16 * (p.1.cls : Int) + (p.1.id : Int)) = ((16 * p.1.cls + p.1.id : Nat) : Int) by omega]
      refine (byteOf_any (16 * p.1.cls + p.1.id) w4 (by omega)).mono ?_
      rintro e w5 ⟨rfl, hb7⟩
      generalize hB : UInt8.ofNat (16 * p.1.cls + p.1.id) = B
      have HB := Lib.hid hB; clear hB
      have hss := size_Bs2 t [B] (by simp; omega)
      clear e0' e1'
      have HE5 := Lib.hid (below_cell hb7 HE18'.out)
      have HT5 := Lib.hid (fun j hj => below_cell hb7 (HT4.out j hj))
      have hvs5 := hvs4.below hb7
      have hb9 := below_then hb6 hb7
      clear hb6 hb7 HT4 HE18' hvs4
      go_wp2_with fail
      rw [Bs_append]
      clear hss
      have hw0 : t ++ [B] = t ++ huffW p.1 0 := by rw [← HB.out]; rfl
      rw [hw0]
      clear hw0
      go_loopw [4, 7] (fun s j wr2 => ∃ i : Nat, i ≤ 16 ∧ j = .int .i64 i ∧ s = .string (Bs (t ++ huffW p.1 i)) ∧ Below w5.heap.size w5 wr2) (fun _ j _ => 16 - (intOf j).toNat)
      case atStart => exact ⟨0, by omega, rfl, rfl, Below.refl _ _⟩
      case round =>
        obtain ⟨i, hi, rfl, rfl, hbi⟩ := hrel
        have hlenW := huffW_len p.1 i
        by_cases hlt2 : i < 16
        · have c2 := below_cell hbi (HT5.out i hlt2)
          have hxb := HOK.out.cnt _ (getD_mem (l := p.1.cnt) (k := i) (by rw [HOK.out.len]; exact hlt2))
          have hW := huffW_next (h := p.1) (k := i) (by rw [HOK.out.len]; exact hlt2)
          generalize p.1.cnt.getD i 0 = x at c2 hxb hW
          have hxi : (x : Int) ≤ 255 := by omega
          have HWN := Lib.hid hW; clear hW
          generalize huffW p.1 i = u at hlenW HWN ⊢
          go_wp2_with fail
          refine (byteOf_any x wr (by omega)).mono ?_
          rintro e w6 ⟨rfl, hb8⟩
          generalize hB2 : [UInt8.ofNat x] = B2
          have HB2 := Lib.hid hB2; clear hB2
          have hB2l : B2.length ≤ 1 := by rw [← HB2.out]; simp
          have hss := size_Bs2 (t ++ u) B2 (by rw [List.length_append]; omega)
          clear hB2l
          go_wp2_with fail
          rw [Bs_append, List.append_assoc]
          go_roundw
          case rel => exact ⟨i + 1, by omega, by go_num, by rw [HWN.out, ← HB2.out], below_then hbi hb8⟩
          case measure => simp [intOf]; omega
        · obtain rfl : i = 16 := by omega
          have c2 := below_cell hbi HE5.out
          have hvs6 := hvs5.below hbi
          have hlv := p.1.vals.length_map UInt8.ofNat
          have hcv := conv_any va p.1.vals.length vc (p.1.vals.map UInt8.ofNat) wr (by rw [nats_of HOK.out.vals]; exact hvs6)
          have hgl := huff_len HGOOD.out HOK.out.len
          rw [← huffW_all HOK.out.len, List.length_append] at hgl
          have hss := size_Bs2 (t ++ huffW p.1 16) (p.1.vals.map UInt8.ofNat) (by rw [List.length_append]; omega)
          have hall : t ++ huffW p.1 16 ++ p.1.vals.map UInt8.ofNat = ((ps.take (k + 1)).map (·.1)).flatMap huffB := by rw [List.append_assoc, huffW_all HOK.out.len, HNX.out.2]
          have HALL := Lib.hid hall; clear hall
          have hbk := below_then hb9 hbi
          clear hvs6 hvs5 hlenW hgl hlv hb9
          generalize p.1.vals.map UInt8.ofNat = V at hcv hss HALL
          generalize t ++ huffW p.1 16 = U at hss HALL ⊢
          go_wp2_with fail
          rw [Bs_append, HALL.out]
          go_roundw
          case rel => exact ⟨k + 1, by omega, by go_num, rfl, by rw [HNX.out.1]; exact HGOOD.out, hbk⟩
          case measure => simp [intOf]; omega
    · obtain rfl : k = n := by omega
      have hall : ps.take k = ps := List.take_of_length_le (by rw [HLN.out]; exact Nat.le_refl _)
      rw [hall]
      have hb9 := HBAD.out
      rw [hall] at hb9
      clear hall
      by_cases h0 : k = 0
      · subst h0
        have hl0 : ps = [] := List.eq_nil_of_length_eq_zero HLN.out
        have HL0 := Lib.hid hl0; clear hl0
        generalize hss : (ps.map (·.1)).flatMap huffB = tt
        have HSS := Lib.hid hss; clear hss hb9
        go_wp2_with fail
        go_ret2
        refine ⟨?_, hb⟩
        rw [HL0.out]
        rfl
      · have hl0 : ps.map (·.1) ≠ [] := fun e => by have := HLN.out; rw [List.map_eq_nil_iff] at e; rw [e] at this; simp at this; omega
        have HL0 := Lib.hid (And.intro hl0 hb9); clear hl0 hb9
        have h0' : ((k : Int) == 0) = false := beq_false_of_ne (by omega)
        have h0n : ¬ (k : Int) = 0 := by omega
        have h0m : (k == 0) = false := beq_false_of_ne h0
        generalize hss : (ps.map (·.1)).flatMap huffB = tt
        have HSS := Lib.hid hss; clear hss
        go_wp2_with fail
        go_ret2
        refine ⟨?_, hb⟩
        unfold huffT
        rw [HL0.out.2, if_neg (by simp), if_neg HL0.out.1, HSS.out]
        rfl
end Go.Proofs.YtjfgfoeenajneaaGreatDoor.Sg
