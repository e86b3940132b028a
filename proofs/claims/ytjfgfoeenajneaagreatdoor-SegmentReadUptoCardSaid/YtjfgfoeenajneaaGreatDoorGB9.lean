/- Bytes are taken from ahead. The program reads a table of steps. -/
import Derived.Test.YtjfgfoeenajneaaGreatDoorGB6
import Derived.Test.YtjfgfoeenajneaaGreatDoorGA2
import Derived.Test.YtjfgfoeenajneaaGreatDoorGA5
import Derived.Test.YtjfgfoeenajneaaGreatDoorGB1
namespace Go.Proofs.YtjfgfoeenajneaaGreatDoor.Sg
open Go.RowKit

/-- all below stands, but two blocks -/
structure But2 (base d s : Nat) (w w' : World) : Prop where
  os : w'.os = w.os
  tape : w'.tape = w.tape
  output : w'.output = w.output
  size : w.heap.size ≤ w'.heap.size
  block : ∀ i, i < base → i ≠ d → i ≠ s → w'.heap[i]? = w.heap[i]?
theorem But2.refl (base d s : Nat) (w : World) : But2 base d s w w := ⟨rfl, rfl, rfl, Nat.le_refl _, fun _ _ _ _ => rfl⟩
theorem But2.trans {base d s : Nat} {a b c : World} (h : But2 base d s a b) (k : But2 base d s b c) : But2 base d s a c :=
  ⟨k.os.trans h.os, k.tape.trans h.tape, k.output.trans h.output, Nat.le_trans h.size k.size, fun i hi h1 h2 => (k.block i hi h1 h2).trans (h.block i hi h1 h2)⟩
theorem But2.of_below {base d s : Nat} {a b : World} (h : Below base a b) : But2 base d s a b := ⟨h.os, h.tape, h.output, h.size, fun i hi _ _ => h.block i hi⟩
theorem But2.of_grown {base d s : Nat} {a b : World} {r : Option Nat} (h : a.grownBy b r) (hr : ∀ g, r = some g → g = d ∨ g = s ∨ base ≤ g) (hb : base ≤ a.heap.size) : But2 base d s a b :=
  ⟨h.os, h.tape, h.output, h.size, fun i hi h1 h2 => h.block i (by omega) (fun e => by rcases hr i e.symm with h3 | h3 | h3 <;> omega)⟩
theorem But2.below {base d s b0 : Nat} {a b : World} (h : But2 base d s a b) (h0 : b0 ≤ base) (hd : b0 ≤ d) (hs : b0 ≤ s) : Below b0 a b :=
  ⟨h.os, h.tape, h.output, h.size, fun i hi => h.block i (by omega) (by omega) (by omega)⟩
theorem But2.blk {base d s g : Nat} {a b : World} {t : TypeId} {cs : Array Value} (h : But2 base d s a b) (hb : Blk a g t cs) (h0 : g < base) (h1 : g ≠ d) (h2 : g ≠ s) : Blk b g t cs := (h.block g h0 h1 h2).trans hb
theorem But2.drew {base d s : Nat} {a b : World} (h : But2 base d s a b) (n : Nat) : But2 base d s a (b.drewN n) := ⟨h.os, h.tape, h.output, h.size, h.block⟩

/-- what is taken -/
def TakeP (d n : Nat) (l : List UInt8) (w : World) (e : Ending) (w' : World) : Prop :=
  if l.length < n then e = .returned (.tuple #[.string (Bs []), .bool false]) ∧ w' = w
  else e = .returned (.tuple #[.string (Bs (l.take n)), .bool true]) ∧ w' = w.setCell ⟨d, 0, none⟩ (.string (Bs (l.drop n)))
set_option maxRecDepth 100000 in
set_option maxHeartbeats 4000000 in
theorem take_any (d n : Nat) (l : List UInt8) (w : World) (hd : StrAt 136 w d l) (hn : n ≤ 1152921504606846976) (_hl : l.length ≤ 1152921504606846976) :
    Calls Tryz.prog 100 #[.pointer (some ⟨d, 0, none⟩), .int .i64 (n : Int)] w (TakeP d n l w) := by
  have c0 : w.cell? ⟨d, 0, none⟩ = some (.string (Bs l)) := by rw [hd.cell]; rfl
  have f0 := hd.frozen 0
  have hz := Bs_size l
  by_cases hlt : l.length < n
  · have hz2 : ((Bs l).size : Int) < (n : Int) := by rw [hz]; omega
    go_enter Tryz.func100, Tryz.ntmps100
    go_wp2_with fail
    go_ret2
    unfold TakeP
    rw [if_pos hlt]
    exact ⟨rfl, rfl⟩
  · have hz2 : ¬ ((Bs l).size : Int) < (n : Int) := by rw [hz]; omega
    have hx : (Bs l).extract 0 n = Bs (l.take n) := by rw [Bs_cut]; simp
    have hy : (Bs l).extract n l.length = Bs (l.drop n) := by
      rw [Bs_cut, List.take_of_length_le (by rw [List.length_drop]; exact Nat.le_refl _)]
    have HY := Lib.hid hy; clear hy
    have h0 : (0 : Int) ≤ n := by omega
    go_enter Tryz.func100, Tryz.ntmps100
    go_wp2_with fail
    go_ret2
    unfold TakeP
    rw [if_neg hlt]
    exact ⟨rfl, by rw [HY.out]⟩
end Go.Proofs.YtjfgfoeenajneaaGreatDoor.Sg
namespace Go.Proofs.YtjfgfoeenajneaaGreatDoor.Sg
open Go.RowKit
open Go.Proofs.YtjfgfoeenajneaaGreatDoor.Lex (F)

def nilS : Value := .slice none 0 0
/-- the segment that is being read -/
def segR (m : SegM) (vq vh vc vp vi : Value) : Array Value := segC m vq vh vc vp vi
def rqM (x y : Nat) (l : List UInt8) (acc : List QuantM) : Res (List UInt8 × List QuantM) :=
  if l.length < 64 * (1 + x) then .bad 152 else if zeroM (tabOf (x == 1) l) then .bad 153
  else .ok (l.drop (64 * (1 + x)), acc ++ [⟨y, x == 1, tabOf (x == 1) l⟩])
def qv (x k j : Nat) (l : List UInt8) : Nat := match j with
  | 0 => 0
  | 1 => nb l ((x + 1) * k)
  | _ => nb2 l (2 * k)
theorem qv_get (y : Nat) (wide : Bool) (t : List Nat) (k : Nat) (l : List UInt8) (x j : Nat) (hk : k < 64) (ht : t.length = 64) : ((quantF y wide t k).set (2 + k) (.int .u16 (qv x k j l : Nat))).toArray[2 + k]? = some (.int .u16 (qv x k j l : Nat)) := by
  have h9 := quantF_length y wide t k (by omega) (.inl ht)
  rw [List.getElem?_toArray, List.getElem?_set]
  simp [h9]
  omega
theorem qv_zero (y : Nat) (wide : Bool) (t : List Nat) (k : Nat) (l : List UInt8) (x : Nat) (hk : k < 64) (ht : t.length = 64) : (quantF y wide t k).set (2 + k) (.int .u16 (qv x k 0 l : Nat)) = quantF y wide t k := by
  have h9 := quantF_get y wide t k hk ht
  rw [List.getElem?_toArray] at h9
  apply List.ext_getElem?
  intro i
  rw [List.getElem?_set]
  split
  · rename_i h
    subst h
    rw [h9]
    split
    · rfl
    · rename_i h; exact absurd (List.getElem?_eq_some_iff.1 h9).1 h
  · rfl
theorem w5_one (w : World) (s : Nat) {i : Nat} (v : Value) : w.grownBy (w.setCell ⟨s, i, none⟩ v) (some s) := grown_set (grown_of_below (Below.refl _ _) _) i v
theorem large1 (l : List UInt8) : largeM (tab1 l) = false := by
  unfold largeM tab1
  rw [List.any_map, List.any_eq_false]
  intro u _
  have := u.toNat_lt
  simp
  omega
theorem val_load_mid {P : Program} {op : Oper} {a : Act} {u : World} (ty : TypeId) (x : Operand) (ho : op.op = .load ty x) (b o : Nat) (hx : a.eval x = .pointer (some ⟨b, o, none⟩)) (cs : List Value) (d : TypeDesc) (hc : u.rangeAt b o cs)
    (hu : P.underlying ty = some d) (hd : d.isRow = true) (hi : (P.info? ty).map (·.size) = some cs.length) : (execOp a.eval op).run P u = .ok (.value (.agg cs.toArray)) u := by
  unfold execOp
  simp only [ho, hx, Instr.loadAt, Instr.sureAddr, Sem.run_bind, Sem.run_pure, Result.andThen_ok, run_loadVar_mid u b o ty cs d hc hu hd hi]
theorem wp_buildOne {P : Program} {o : Oper} {a : Act} {w : World} {K : Act → World → Prop} {Q : Exit → Act → World → Prop} (t e : TypeId) (x : Operand) (ho : o.op = .buildSlice t 1 #[(0, x)])
    (C : Array Value) (hx : a.eval x = .agg C) (ie : TypeInfo) (z : Value) (s : Nat) (hu : P.underlying t = some (.slice e)) (hie : P.info? e = some ie) (hz : ie.zero = some z) (hs : ie.size = s) (hC : C.size = s) (hpos : 0 < s) (hsmall : s ≤ 16777216)
    (h : K (a.put o.dst (.slice (some ⟨w.heap.size, 0, none⟩) 1 1)) (w.alloc (.cells C e))) : o.wp P a w K Q := by
  refine wp_buildSlice t e 1 _ ho C ie z hu hie hz (by rw [hs]; omega) (by rw [hs]; omega) ?_ h
  have h1 := Go.Great.fill_whole (s := s) hpos [.agg C] ((Array.range (1 * ie.size)).map (z.cells[· % z.cells.size]!)) (fun v hv => by simp at hv; subst hv; exact hC) (by simp [hs])
  rw [hs] at h1 ⊢
  simp only [List.map_toArray, List.map_cons, List.map_nil, hx]
  simpa [Value.cells] using h1
def QIn (base d s : Nat) (m : SegM) (w : World) (l : List UInt8) (acc : List QuantM) (u : World) : Prop :=
  ∃ vq, StrAt 136 u d l ∧ Blk u s 31 (segC m vq nilS nilS nilS nilS) ∧ u.ownsRow base 81 66 vq acc.length (acc.flatMap quantC) ∧ But2 base d s w u
def RQP (base d s : Nat) (m : SegM) (w : World) (r : Res (List UInt8 × List QuantM)) (e : Ending) (w' : World) : Prop :=
  match r with
  | .bad c => e = .returned (.int .i64 (c : Nat)) ∧ c ≠ 0 ∧ But2 base d s w w' ∧ w.heap.size ≤ w'.heap.size
  | .ok (l, acc) => e = .returned (.int .i64 0) ∧ QIn base d s m w l acc w'
set_option maxRecDepth 100000 in
set_option maxHeartbeats 16000000 in
theorem readQuant0 (base d s first y : Nat) (m : SegM) (l : List UInt8) (acc : List QuantM) (w : World) (hin : QIn base d s m w l acc w) (hd : d < base) (hs : s < base) (hb : base ≤ w.heap.size) (hf : first < 256) (hx : first / 16 = 0) (hy : first % 16 = y) (_hy3 : y ≤ 3) (hl : l.length ≤ 16777216) (hacc : acc.length ≤ 16777216) :
    Calls Tryz.prog 65 #[.pointer (some ⟨s, 0, none⟩), .pointer (some ⟨d, 0, none⟩), .int .u8 (first : Int)] w (RQP base d s m w (rqM 0 y l acc)) := by
  obtain ⟨vq, hD, hS, hown, hbut⟩ := hin
  have g1 : (first : Int) / 16 = 0 := by omega
  have gand : bits .and .u8 (first : Int) 15 = (y : Int) := by
    have h9 := u8_and_nat first 15 (by omega) (by omega)
    rw [show first &&& 15 = first % 16 from Nat.and_two_pow_sub_one_eq_mod first 4, hy] at h9
    simpa using h9
  have hbuild : ((Tryz.zeroCells81.setIfInBounds 0 (Value.int IntKind.u8 (y : Int))).setIfInBounds 1 (Value.bool false)) = (quantF y false [] 0).toArray := by rw [zq]; rfl
  have hi1 : (Tryz.prog.info? 81).map (·.size) = some ((Tryz.zeroCells81.setIfInBounds 0 (Value.int IntKind.u8 (y : Int))).setIfInBounds 1 (Value.bool false)).size := by
    simp only [Array.size_setIfInBounds]
    kernel_rfl
  have hi2 : Tryz.zeroCells81.size = ((Tryz.zeroCells81.setIfInBounds 0 (Value.int IntKind.u8 (y : Int))).setIfInBounds 1 (Value.bool false)).size := by
    simp only [Array.size_setIfInBounds]
  have hi3 : ((Tryz.zeroCells81.setIfInBounds 0 (Value.int IntKind.u8 (y : Int))).setIfInBounds 1 (Value.bool false)).all (·.oneCell') = true := by
    rw [hbuild, Array.all_eq_true_iff_forall_mem]
    intro u hu
    exact quantF_one _ _ _ _ u (by simpa using hu)
  have HI := Lib.hid (And.intro hi1 (And.intro hi2 hi3)); clear hi1 hi2 hi3
  have HBU := Lib.hid hbuild; clear hbuild
  have HOWN := Lib.hid hown
  have hds : d ≠ s := hD.ne hS (by decide)
  go_enter Tryz.func65, Tryz.ntmps65
  go_upto_region 3 with (refine wpList_store_row rfl _ _ _ rfl _ _ rfl rfl _ _ (Blk.new w _ _) HI.out.1 HI.out.2.1 HI.out.2.2 ?_)
  rw [HBU.out]
  have hq2 : Blk ((w.alloc (.cells Tryz.zeroCells81 81)).setRow w.heap.size (quantF y false [] 0).toArray) w.heap.size 81 (quantF y false [] 0).toArray := (Blk.new w _ _).row
  have gr2 : Below w.heap.size w ((w.alloc (.cells Tryz.zeroCells81 81)).setRow w.heap.size (quantF y false [] 0).toArray) := grown_below (grown_row (grown_alloc (grown_of_below (Below.refl _ _) none) _) (.inl (Nat.le_refl _)) _)
  generalize ((w.alloc (.cells Tryz.zeroCells81 81)).setRow w.heap.size (quantF y false [] 0).toArray) = w2 at hq2 gr2 ⊢
  have hD2 := hD.kept gr2
  have hS2 := hS.kept gr2
  have hown2 := own_keep hown (w' := w2) (fun g hg => gr2.block g (hown.lt g hg).2)
  have hbut2 : But2 base d s w w2 := But2.of_below (gr2.mono hb)
  have hq0 : base ≤ w.heap.size := hb
  generalize hqq : w.heap.size = q at hq2 hq0 ⊢
  have HQQ := Lib.hid hqq; clear hqq
  clear hD hS hown
  go_wp2_with fail
  refine (take_any d 64 l w2 hD2 (by decide) (by omega)).mono ?_
  rintro e w3 htk
  unfold TakeP at htk
  by_cases hlt : l.length < 64
  · rw [if_pos hlt] at htk
    obtain ⟨rfl, rfl⟩ := htk
    have hres : rqM 0 y l acc = .bad 152 := by unfold rqM; rw [if_pos (by omega)]
    have HR := Lib.hid hres; clear hres
    go_wp2_with fail
    go_ret
    rw [HR.out]
    exact ⟨rfl, by decide, hbut2, gr2.size⟩
  rw [if_neg hlt] at htk
  obtain ⟨rfl, rfl⟩ := htk
  have hq3 := hq2.far (p := ⟨d, 0, none⟩) (by show q ≠ d; omega) (.string (Bs (l.drop 64)))
  have hD3 := StrAt.set (m := l.drop 64) hD2
  have hS3 := hS2.far (p := ⟨d, 0, none⟩) (by show s ≠ d; omega) (.string (Bs (l.drop 64)))
  have hown3 := own_keep hown2 (w' := w2.setCell ⟨d, 0, none⟩ (.string (Bs (l.drop 64)))) (fun g hg => Below.heap_setCell w2 _ _ g (by have := (hown2.lt g hg).1; show g ≠ d; omega))
  have hbut3 : But2 base d s w (w2.setCell ⟨d, 0, none⟩ (.string (Bs (l.drop 64)))) := hbut2.trans (But2.of_grown (grown_one _) (fun g e => .inl (by injection e with e; exact e.symm)) (by have := gr2.size; have := HQQ.out; omega))
  have hz3 : base ≤ (w2.setCell ⟨d, 0, none⟩ (.string (Bs (l.drop 64)))).heap.size := by have := gr2.size; have := HQQ.out; simp; omega
  generalize w2.setCell ⟨d, 0, none⟩ (.string (Bs (l.drop 64))) = w3 at hq3 hD3 hS3 hown3 hbut3 hz3 ⊢
  clear hq2 hD2 hS2 hown2 hbut2 gr2
  clear w2
  have hlen : 64 ≤ l.length := by omega
  have htl : (tab1 l).length = 64 := tab1_length hlen
  have HTL := Lib.hid htl; clear htl
  have hL : (Bs (l.take 64)).size = 64 := by rw [Bs_size, List.length_take]; omega
  have hbyte : ∀ k, k < 64 → ∀ h : k < (Bs (l.take 64)).size, ((Bs (l.take 64))[k]).toNat = nb l k := fun k hk h => by
    rw [Bs_get]
    unfold nb
    rw [List.getD_eq_getElem?_getD, List.getD_eq_getElem?_getD, List.getElem?_take, if_pos hk]
  generalize Bs (l.take 64) = LB at hL hbyte ⊢
  have HBY := Lib.hid hbyte; clear hbyte
  go_upto_region 7 with fail
  go_loopw [32] (fun i wr => ∃ k : Nat, k ≤ 64 ∧ i = .int .i64 k ∧ Blk wr q 81 (quantF y false (tab1 l) k).toArray ∧ w3.grownBy wr (some q)) (fun i _ => 64 - (intOf i).toNat)
  case atStart => exact ⟨0, by omega, rfl, hq3, grown_of_below (Below.refl _ _) _⟩
  clear hq3
  case round =>
    obtain ⟨k, hk, rfl, hB, hG⟩ := hrel
    by_cases hlt : k < 64
    · have hk0 : 0 ≤ (k : Int) := by omega
      have hk64 : (k : Int) < 64 := by omega
      go_upto_region 10 with fail
      go_loopw [36] (fun i wi => ∃ j : Nat, j ≤ 1 ∧ i = .int .i64 j ∧ Blk wi q 81 ((quantF y false (tab1 l) k).set (2 + k) (.int .u16 (qv 0 k j l : Nat))).toArray ∧ w3.grownBy wi (some q)) (fun i _ => 1 - (intOf i).toNat)
      case atStart => exact ⟨0, by omega, rfl, by rw [qv_zero y false (tab1 l) k l 0 hlt HTL.out]; exact hB, hG⟩
      clear hB hG
      case round =>
        obtain ⟨j, hj, rfl, hB, hG⟩ := hrel
        have hcell : wr.cell? ⟨q, 2 + k, none⟩ = some (.int .u16 (qv 0 k j l : Nat)) := by rw [hB.cell, qv_get y false (tab1 l) k l 0 j hlt HTL.out]
        by_cases hjl : j < 1
        · obtain rfl : j = 0 := by omega
          have hby : ∀ h : k < LB.size, (LB[k]).toNat = nb l k := fun h => by rw [HBY.out (k) (by omega) h]
          have hnb := nb_lt l (k)
          have hq9 : qv 0 k 0 l = 0 := rfl
          rw [hq9] at hcell
          have hq8 : qv 0 k 1 l = nb l k := by show nb l ((0 + 1) * k) = _; rw [Nat.zero_add, Nat.one_mul]
          generalize nb l k = B1 at hby hnb hq8
          have HQ8 := Lib.hid hq8; clear hq8
          go_upto_region 12 with fail
          have hw8 : IntKind.i64.wrap ((k : Int)) = (k : Int) := IntWalk.i64_in _ (by omega)
          have hw16 : IntKind.u16.wrap (B1 : Int) = B1 := by rw [IntKind.wrap_u16]; omega
          have hwc : IntKind.u16.wrap 0 = 0 := rfl
          have hor : bits .or .u16 0 (B1 : Int) = (B1 : Int) := by
            have h9 := u16_or_nat 0 B1 (by omega) (by omega)
            simpa using h9
          refine LexZ.wp_region [] 17 rfl _ rfl rfl (fun u => u.cell? ⟨q, 2 + k, none⟩ = some (.int .u16 0)) (fun u n h => h) hcell (by kernel_rfl) ?_
          refine LexZ.take 0 (by rfl) (by kernel_rfl) (Lex4.free_ (v := ?_) (by rfl) (by rfl) (fun u => ?_) ?_); rotate_left; (go_simp; try with_reducible rfl); simp only [Act.put, zA, zB, zC]
          refine LexZ.take 1 (by rfl) (by kernel_rfl) (Lex4.free_ (v := ?_) (by rfl) (by rfl) (fun u => ?_) ?_); rotate_left; (go_simp; try with_reducible rfl); simp only [Act.put, zA, zB, zC]
          refine LexZ.take 2 (by rfl) (by kernel_rfl) (Lex4.free_ (v := ?_) (by rfl) (by rfl) (fun u => ?_) ?_); rotate_left; (go_simp; try with_reducible rfl); simp only [Act.put, zA, zB, zC]
          refine LexZ.take 3 (by rfl) (by kernel_rfl) (Lex4.free_ (v := ?_) (by rfl) (by rfl) (fun u => ?_) ?_); rotate_left; (go_simp; try with_reducible rfl); simp only [Act.put, zA, zB, zC]
          refine LexZ.take 4 (by rfl) (by kernel_rfl) (Lex4.load_ (v := ?_) (by rfl) (by rfl) (fun u hu => ?_) ?_); rotate_left; (go_simp; try with_reducible rfl); simp only [Act.put, zA, zB, zC]
          refine LexZ.take 5 (by rfl) (by kernel_rfl) (Lex4.free_ (v := ?_) (by rfl) (by rfl) (fun u => ?_) ?_); rotate_left; (go_simp; try with_reducible rfl); simp only [Act.put, zA, zB, zC]
          refine LexZ.take 6 (by rfl) (by kernel_rfl) (Lex4.free_ (v := ?_) (by rfl) (by rfl) (fun u => ?_) ?_); rotate_left; (go_simp; try with_reducible rfl); simp only [Act.put, zA, zB, zC]
          refine LexZ.take 7 (by rfl) (by kernel_rfl) (Lex4.free_ (v := ?_) (by rfl) (by rfl) (fun u => ?_) ?_); rotate_left; (go_simp; try with_reducible rfl); simp only [Act.put, zA, zB, zC]
          refine LexZ.take 8 (by rfl) (by kernel_rfl) (Lex4.free_ (v := ?_) (by rfl) (by rfl) (fun u => ?_) ?_); rotate_left; (go_simp; try with_reducible rfl); simp only [Act.put, zA, zB, zC]
          refine LexZ.take 9 (by rfl) (by kernel_rfl) (Lex4.free_ (v := ?_) (by rfl) (by rfl) (fun u => ?_) ?_); rotate_left; (go_simp; try with_reducible rfl); simp only [Act.put, zA, zB, zC]
          refine LexZ.take 10 (by rfl) (by kernel_rfl) (Lex4.free_ (v := ?_) (by rfl) (by rfl) (fun u => ?_) ?_); rotate_left; (go_simp; try with_reducible rfl); simp only [Act.put, zA, zB, zC]
          refine LexZ.take 11 (by rfl) (by kernel_rfl) (Lex4.free_ (v := ?_) (by rfl) (by rfl) (fun u => ?_) ?_); rotate_left; (go_simp; try with_reducible rfl); simp only [Act.put, zA, zB, zC]
          refine LexZ.take 12 (by rfl) (by kernel_rfl) (Lex4.free_ (v := ?_) (by rfl) (by rfl) (fun u => ?_) ?_); rotate_left; (go_simp; try with_reducible rfl); simp only [Act.put, zA, zB, zC]
          try simp only [hby]
          refine LexZ.take 13 (by rfl) (by kernel_rfl) (Lex4.free_ (v := ?_) (by rfl) (by rfl) (fun u => ?_) ?_); rotate_left; (go_simp; try with_reducible rfl); simp only [Act.put, zA, zB, zC]
          refine LexZ.take 14 (by rfl) (by kernel_rfl) (Lex4.free_ (v := ?_) (by rfl) (by rfl) (fun u => ?_) ?_); rotate_left; (go_simp; try with_reducible rfl); simp only [Act.put, zA, zB, zC]
          refine LexZ.take 15 (by rfl) (by kernel_rfl) (Lex4.free_ (v := ?_) (by rfl) (by rfl) (fun u => ?_) ?_); rotate_left; (go_simp; try with_reducible rfl); simp only [Act.put, zA, zB, zC]
          refine LexZ.take 16 (by rfl) (by kernel_rfl) (Lex4.free_ (v := ?_) (by rfl) (by rfl) (fun u => ?_) ?_); rotate_left; (go_simp; try with_reducible rfl); simp only [Act.put, zA, zB, zC]
          refine LexZ.done (by kernel_rfl) (by kernel_rfl) (fun n9 => ?_)
          have hB9 : Blk (wr.drew.drewN n9) q 81 _ := hB
          have hG9 : w3.grownBy (wr.drew.drewN n9) (some q) := grown_drewN (grown_drewN hG 1) n9
          have hcell9 : (wr.drew.drewN n9).cell? ⟨q, 2 + k, none⟩ = some (.int .u16 0) := hcell
          clear hB hG hcell
          generalize wr.drew.drewN n9 = w9 at hB9 hG9 hcell9 ⊢
          have hf9 : w9.frozen? ⟨q, 2 + k, none⟩ = false := hB9.frozen _
          have hB10 := hB9.set (2 + k) (.int .u16 (qv 0 k 1 l : Nat))
          rw [List.setIfInBounds_toArray, List.set_set] at hB10
          have hG10 := grown_set hG9 (2 + k) (.int .u16 (qv 0 k 1 l : Nat))
          have hqi : ((qv 0 k 1 l : Nat) : Int) = (B1 : Int) := by rw [HQ8.out]
          rw [hqi] at hB10 hG10
          have HB10 := Lib.hid hB10
          have HG10 := Lib.hid hG10
          clear hB10 hG10 hqi
          go_simp
          go_wp2_with fail
          go_roundw
          case rel => exact ⟨1, by omega, by go_num, by rw [show ((qv 0 k 1 l : Nat) : Int) = (B1 : Int) from by rw [HQ8.out]]; exact HB10.out, HG10.out⟩
          case measure => simp [intOf]
        · obtain rfl : j = 1 := by omega
          have hnx := quantF_set y false (tab1 l) k hlt HTL.out
          have hqe : qv 0 k 1 l = (tab1 l).getD k 0 := by rw [tab1_get hlen hlt]; show nb l ((0 + 1) * k) = _; rw [Nat.zero_add, Nat.one_mul]
          rw [hqe, hnx] at hB
          clear hcell hnx hqe
          go_wp2_with fail
          go_roundw
          case rel => exact ⟨k + 1, by omega, by go_num, hB, hG⟩
          case measure => simp [intOf]; omega
    · obtain rfl : k = 64 := by omega
      rw [quantF_all _ _ _ HTL.out] at hB
      have hown4 := own_grown hown3 hG (.inr fun e => by have := (HOWN.out.lt q e).2; have := HQQ.out; omega)
      have hD4 := hD3.grown hG (fun e => by injection e; omega)
      have hS4 := hS3.grown hG (fun e => by injection e; omega)
      have hbut4 := hbut3.trans (But2.of_grown hG (fun g e => .inr (.inr (by injection e; omega))) hz3)
      have hz4 : base ≤ wr.heap.size := Nat.le_trans hz3 hG.size
      clear hD3 hS3 hown3 hbut3 hz3 hG HBY hL
      have hT3 : ∀ j, j < 64 → wr.cell? ⟨q, 2 + j, none⟩ = some (.int .u16 ((tab1 l).getD j 0 : Nat)) := fun j hj => by
        rw [hB.cell]
        unfold quantC
        rw [show 2 + j = (j + 1) + 1 by omega, List.getElem?_toArray, List.getElem?_cons_succ, List.getElem?_cons_succ, List.getElem?_map, List.getD_eq_getElem?_getD, List.getElem?_eq_getElem (by rw [HTL.out]; exact hj)]
        rfl
      have HT3 := Lib.hid hT3; clear hT3
      have e1 : wr.cell? ⟨q, 1, none⟩ = some (.bool false) := by rw [hB.cell]; rfl
      have hqc : qcM (tab1 l) false = if zeroM (tab1 l) then 80 else 0 := by
        unfold qcM
        rw [show largeM (tab1 l) = false from large1 l]; rfl
      go_wp2_with fail
      refine (quantCheck_any (tab1 l) false q 2 wr HTL.out HT3.out).mono ?_
      rintro e w5 ⟨rfl, rfl⟩
      rw [hqc]
      clear e1 hqc
      cases hzero : zeroM (tab1 l) with
      | true =>
        have hres : rqM 0 y l acc = .bad 153 := by
          unfold rqM
          rw [if_neg (by omega), show tabOf (0 == 1) l = tab1 l from rfl, hzero]
          rfl
        have HR := Lib.hid hres; clear hres hzero
        go_wp2_with fail
        go_ret
        rw [HR.out]
        exact ⟨rfl, by decide, hbut4, hbut4.size⟩
      | false =>
      have hres : rqM 0 y l acc = .ok (l.drop 64, acc ++ [⟨y, false, tab1 l⟩]) := by
        unfold rqM
        rw [if_neg (by omega), show tabOf (0 == 1) l = tab1 l from rfl, hzero]
        rfl
      have HR := Lib.hid hres; clear hres hzero
      obtain ⟨iq, iq1, iq2, iq3, iq4⟩ := info_parts infoQ
      obtain ⟨zqv, hzqv⟩ : ∃ z, z = Value.agg (quantF 0 false [] 0).toArray := ⟨_, rfl⟩
      rw [← hzqv] at iq2
      have iq5 : zqv.cells.size = 66 := by rw [hzqv]; rfl
      clear hzqv
      have IQ := Lib.hid (And.intro iq1 (And.intro iq2 (And.intro iq3 (And.intro iq4 iq5)))); clear iq1 iq2 iq3 iq4 iq5
      have hC := quantC_length ⟨y, false, tab1 l⟩ HTL.out
      have hC1 := quantC_one ⟨y, false, tab1 l⟩
      have HC := Lib.hid (And.intro hC hC1); clear hC hC1
      generalize hcs : quantC ⟨y, false, tab1 l⟩ = cs at hB HC
      have HCS := Lib.hid hcs; clear hcs
      have hs3 : wr.cell? ⟨s, 3, none⟩ = some vq := by rw [hS4.cell]; rfl
      have hI : wr.cell? ⟨s, 3, none⟩ = some vq ∧ Blk wr q 81 cs.toArray := ⟨hs3, hB⟩
      go_upto_region 17 with fail
      refine LexZ.wp_region [] 10 rfl _ rfl rfl (fun u => u.cell? ⟨s, 3, none⟩ = some vq ∧ Blk u q 81 cs.toArray) (fun u n h => h) hI (by kernel_rfl) ?_
      refine LexZ.take 0 (by rfl) (by kernel_rfl) (Lex4.free_ (v := ?_) (by rfl) (by rfl) (fun u => ?_) ?_); rotate_left; (go_simp; try with_reducible rfl); simp only [Act.put, zA, zB, zC]
      refine LexZ.take 1 (by rfl) (by kernel_rfl) (Lex4.free_ (v := ?_) (by rfl) (by rfl) (fun u => ?_) ?_); rotate_left; (go_simp; try with_reducible rfl); simp only [Act.put, zA, zB, zC]
      refine LexZ.take 2 (by rfl) (by kernel_rfl) (Lex4.free_ (v := ?_) (by rfl) (by rfl) (fun u => ?_) ?_); rotate_left; (go_simp; try with_reducible rfl); simp only [Act.put, zA, zB, zC]
      refine LexZ.take 3 (by rfl) (by kernel_rfl) (Lex4.free_ (v := ?_) (by rfl) (by rfl) (fun u => ?_) ?_); rotate_left; (go_simp; try with_reducible rfl); simp only [Act.put, zA, zB, zC]
      refine LexZ.take 4 (by rfl) (by kernel_rfl) (Lex4.load_ (v := ?_) (by rfl) (by rfl) (fun u hu => ?_) ?_); rotate_left; (obtain ⟨hu0, hu1⟩ := hu; go_simp; try with_reducible rfl); simp only [Act.put, zA, zB, zC]
      refine LexZ.take 5 (by rfl) (by kernel_rfl) (Lex4.load_ (v := .agg cs.toArray) (by rfl) (by rfl) (fun u hu => val_load_mid 81 (.tmp 7) rfl q 0 rfl cs _ (hu.2.range 0 cs (by simp)) Tryz.underlying81 rfl (by rw [HC.out.1]; exact size66)) ?_); simp only [Act.put, zA, zB, zC]
      have hB5 : Blk wr.drew q 81 cs.toArray := hB
      have hS5 : Blk wr.drew s 31 (segC m vq nilS nilS nilS nilS) := hS4
      have hD5 : StrAt 136 wr.drew d (l.drop 64) := hD4
      have ho5 : wr.drew.ownsRow base 81 66 vq acc.length (acc.flatMap quantC) := hown4
      have hb5 : But2 base d s w wr.drew := hbut4.drew 1
      have hz5 : base ≤ wr.drew.heap.size := hz4
      clear hB hS4 hD4 hown4 hbut4 hz4 hI hs3
      generalize wr.drew = W0 at hB5 hS5 hD5 ho5 hb5 hz5 ⊢
      refine LexZ.take 6 (by rfl) (by kernel_rfl) (Lex4.eff_ (by rfl) (by rfl) (fun n1 K1 hK1 => ?_))
      have hB6 : Blk (W0.drewN n1) q 81 cs.toArray := hB5
      have hS6 : Blk (W0.drewN n1) s 31 (segC m vq nilS nilS nilS nilS) := hS5
      have hD6 : StrAt 136 (W0.drewN n1) d (l.drop 64) := hD5
      have ho6 : (W0.drewN n1).ownsRow base 81 66 vq acc.length (acc.flatMap quantC) := ho5
      have hb6 : But2 base d s w (W0.drewN n1) := hb5.drew n1
      have hz6 : base ≤ (W0.drewN n1).heap.size := hz5
      clear hB5 hS5 hD5 ho5 hb5 hz5
      generalize W0.drewN n1 = W1 at hB6 hS6 hD6 ho6 hb6 hz6 ⊢
      refine wp_buildOne 23 81 (.tmp 68) rfl cs.toArray rfl iq zqv 66 Tryz.underlying23 IQ.out.1 IQ.out.2.1 IQ.out.2.2.1 (by rw [List.size_toArray]; exact HC.out.1) (by decide) (by decide) ?_
      have hB7 := hB6.alloc (.cells cs.toArray 81)
      have hS7 := hS6.alloc (.cells cs.toArray 81)
      have hD7 := hD6.alloc (.cells cs.toArray 81)
      have ho7 := ho6.alloc (.cells cs.toArray 81)
      have hb7 : But2 base d s w (W1.alloc (.cells cs.toArray 81)) := hb6.trans (But2.of_below ((Below.refl _ _).alloc hz6 _))
      have hn7 := Blk.new W1 81 cs.toArray
      have hz7 : base ≤ (W1.alloc (.cells cs.toArray 81)).heap.size := by simp; omega
      refine hK1 _ _ ⟨by rw [hS7.cell]; rfl, hB7⟩ ?_
      clear hB6 hS6 hD6 ho6 hb6 hK1 K1
      generalize hbn : W1.heap.size = bn at hn7 hz6 ⊢
      generalize W1.alloc (.cells cs.toArray 81) = W2 at hB7 hS7 hD7 ho7 hb7 hn7 hz7 ⊢
      clear hbn
      try simp only [Act.put, zA, zB, zC]
      refine LexZ.take 7 (by rfl) (by kernel_rfl) (Lex4.eff_ (by rfl) (by rfl) (fun n2 K2 hK2 => ?_))
      have hB8 : Blk (W2.drewN n2) q 81 cs.toArray := hB7
      have hS8 : Blk (W2.drewN n2) s 31 (segC m vq nilS nilS nilS nilS) := hS7
      have hD8 : StrAt 136 (W2.drewN n2) d (l.drop 64) := hD7
      have ho8 : (W2.drewN n2).ownsRow base 81 66 vq acc.length (acc.flatMap quantC) := ho7
      have hb8 : But2 base d s w (W2.drewN n2) := hb7.drew n2
      have hn8 : Blk (W2.drewN n2) bn 81 cs.toArray := hn7
      have hz8 : base ≤ (W2.drewN n2).heap.size := hz7
      clear hB7 hS7 hD7 ho7 hb7 hn7 hz7
      generalize W2.drewN n2 = W3 at hB8 hS8 hD8 ho8 hb8 hn8 hz8 ⊢
      refine wp_append_lies W3 (.tmp 67) (.tmp 69) 23 rfl base 81 iq zqv 66 130 Tryz.underlying23 IQ.out.1 IQ.out.2.1 IQ.out.2.2.1 IQ.out.2.2.2.1 IQ.out.2.2.2.2 (by decide) vq acc.length (acc.flatMap quantC) (by rfl) ho8 ⟨bn, 0, none⟩ 1 1 cs (by rfl) (by rw [HC.out.1]) (fun i u hu => by rw [Addr.add_mid, hn8.cell, Nat.zero_add]; simpa using hu) HC.out.2 (by decide) (by unfold maxLen; omega) (by omega) hz8 W3.heap.size rfl ?_
      intro gg cap W4 ho9 hgr9 hat9 hlt9
      have hne : ∀ g, vq.ownBlock = some g → base ≤ g := fun g e => (ho8.lt g e).1
      have hS9 := hS8.grown hgr9 (fun e => by have := hne s e.symm; omega)
      have hD9 := hD8.grown hgr9 (fun e => by have := hne d e.symm; omega)
      have hb9 := hb8.trans (But2.of_grown hgr9 (fun g e => .inr (.inr (hne g e))) hz8)
      have hB9 := hB8.grown hgr9 (fun e => by have h1 := (HOWN.out.lt q e.symm).2; have := HQQ.out; omega)
      refine hK2 _ _ ⟨by rw [hS9.cell]; rfl, hB9⟩ ?_
      clear hK2 K2 hS8 hD8 ho8 hb8 hn8 hB8
      try simp only [Act.put, zA, zB, zC]
      refine LexZ.take 8 (by rfl) (by kernel_rfl) (Lex4.free_ (v := ?_) (by rfl) (by rfl) (fun u => ?_) ?_); rotate_left; (go_simp; try with_reducible rfl); simp only [Act.put, zA, zB, zC]
      refine LexZ.take 9 (by rfl) (by kernel_rfl) (Lex4.free_ (v := ?_) (by rfl) (by rfl) (fun u => ?_) ?_); rotate_left; (go_simp; try with_reducible rfl); simp only [Act.put, zA, zB, zC]
      refine LexZ.done (by kernel_rfl) (by kernel_rfl) (fun n9 => ?_)
      have hS10 : Blk (W4.drewN n9) s 31 (segC m vq nilS nilS nilS nilS) := hS9
      have hD10 : StrAt 136 (W4.drewN n9) d (l.drop 64) := hD9
      have ho10 := ho9
      have hb10 := hb9.drew n9
      have hz10 : W3.heap.size ≤ (W4.drewN n9).heap.size := hgr9.size
      have hlt10 : gg < (W4.drewN n9).heap.size := hlt9
      replace ho10 : (W4.drewN n9).ownsRow base 81 66 (.slice (some ⟨gg, 0, none⟩) (acc.length + 1) cap) (acc.length + 1) (acc.flatMap quantC ++ cs) := ho9
      clear hS9 hD9 ho9 hb9 hgr9 hat9 hlt9 hB9
      generalize W4.drewN n9 = W5 at hS10 hD10 ho10 hb10 hz10 hlt10 ⊢
      have hc10 : W5.cell? ⟨s, 3, none⟩ = some vq := by rw [hS10.cell]; rfl
      have hf10 : W5.frozen? ⟨s, 3, none⟩ = false := hS10.frozen _
      have hS11 := hS10.set 3 (.slice (some ⟨gg, 0, none⟩) (acc.length + 1) cap)
      have hD11 := hD10.far (p := ⟨s, 3, none⟩) hds (.slice (some ⟨gg, 0, none⟩) (acc.length + 1) cap)
      have ho11 := own_keep ho10 (w' := W5.setCell ⟨s, 3, none⟩ (.slice (some ⟨gg, 0, none⟩) (acc.length + 1) cap)) (fun g hg => Below.heap_setCell W5 _ _ g (by have := (ho10.lt g hg).1; show g ≠ s; omega))
      have hb11 : But2 base d s w (W5.setCell ⟨s, 3, none⟩ (.slice (some ⟨gg, 0, none⟩) (acc.length + 1) cap)) := hb10.trans (But2.of_grown (w5_one W5 s _) (fun g e => .inr (.inl (by injection e with e; exact e.symm))) (by omega))
      have HF := Lib.hid (And.intro hS11 (And.intro hD11 (And.intro ho11 hb11))); clear hS11 hD11 ho11 hb11 hS10 hD10 ho10 hb10
      go_simp
      go_wp2_with fail
      go_ret
      rw [HR.out]
      refine ⟨rfl, _, HF.out.2.1, HF.out.1, ?_, HF.out.2.2.2⟩
      rw [List.length_append, List.flatMap_append, show [(⟨y, false, tab1 l⟩ : QuantM)].flatMap quantC = cs by rw [← HCS.out]; simp]
      exact HF.out.2.2.1
set_option maxRecDepth 100000 in
set_option maxHeartbeats 16000000 in
theorem readQuant1 (base d s first y : Nat) (m : SegM) (l : List UInt8) (acc : List QuantM) (w : World) (hin : QIn base d s m w l acc w) (hd : d < base) (hs : s < base) (hb : base ≤ w.heap.size) (hf : first < 256) (hx : first / 16 = 1) (hy : first % 16 = y) (_hy3 : y ≤ 3) (hl : l.length ≤ 16777216) (hacc : acc.length ≤ 16777216) :
    Calls Tryz.prog 65 #[.pointer (some ⟨s, 0, none⟩), .pointer (some ⟨d, 0, none⟩), .int .u8 (first : Int)] w (RQP base d s m w (rqM 1 y l acc)) := by
  obtain ⟨vq, hD, hS, hown, hbut⟩ := hin
  have g1 : (first : Int) / 16 = 1 := by omega
  have gand : bits .and .u8 (first : Int) 15 = (y : Int) := by
    have h9 := u8_and_nat first 15 (by omega) (by omega)
    rw [show first &&& 15 = first % 16 from Nat.and_two_pow_sub_one_eq_mod first 4, hy] at h9
    simpa using h9
  have hbuild : ((Tryz.zeroCells81.setIfInBounds 0 (Value.int IntKind.u8 (y : Int))).setIfInBounds 1 (Value.bool true)) = (quantF y true [] 0).toArray := by rw [zq]; rfl
  have hi1 : (Tryz.prog.info? 81).map (·.size) = some ((Tryz.zeroCells81.setIfInBounds 0 (Value.int IntKind.u8 (y : Int))).setIfInBounds 1 (Value.bool true)).size := by
    simp only [Array.size_setIfInBounds]
    kernel_rfl
  have hi2 : Tryz.zeroCells81.size = ((Tryz.zeroCells81.setIfInBounds 0 (Value.int IntKind.u8 (y : Int))).setIfInBounds 1 (Value.bool true)).size := by
    simp only [Array.size_setIfInBounds]
  have hi3 : ((Tryz.zeroCells81.setIfInBounds 0 (Value.int IntKind.u8 (y : Int))).setIfInBounds 1 (Value.bool true)).all (·.oneCell') = true := by
    rw [hbuild, Array.all_eq_true_iff_forall_mem]
    intro u hu
    exact quantF_one _ _ _ _ u (by simpa using hu)
  have HI := Lib.hid (And.intro hi1 (And.intro hi2 hi3)); clear hi1 hi2 hi3
  have HBU := Lib.hid hbuild; clear hbuild
  have HOWN := Lib.hid hown
  have hds : d ≠ s := hD.ne hS (by decide)
  go_enter Tryz.func65, Tryz.ntmps65
  go_upto_region 3 with (refine wpList_store_row rfl _ _ _ rfl _ _ rfl rfl _ _ (Blk.new w _ _) HI.out.1 HI.out.2.1 HI.out.2.2 ?_)
  rw [HBU.out]
  have hq2 : Blk ((w.alloc (.cells Tryz.zeroCells81 81)).setRow w.heap.size (quantF y true [] 0).toArray) w.heap.size 81 (quantF y true [] 0).toArray := (Blk.new w _ _).row
  have gr2 : Below w.heap.size w ((w.alloc (.cells Tryz.zeroCells81 81)).setRow w.heap.size (quantF y true [] 0).toArray) := grown_below (grown_row (grown_alloc (grown_of_below (Below.refl _ _) none) _) (.inl (Nat.le_refl _)) _)
  generalize ((w.alloc (.cells Tryz.zeroCells81 81)).setRow w.heap.size (quantF y true [] 0).toArray) = w2 at hq2 gr2 ⊢
  have hD2 := hD.kept gr2
  have hS2 := hS.kept gr2
  have hown2 := own_keep hown (w' := w2) (fun g hg => gr2.block g (hown.lt g hg).2)
  have hbut2 : But2 base d s w w2 := But2.of_below (gr2.mono hb)
  have hq0 : base ≤ w.heap.size := hb
  generalize hqq : w.heap.size = q at hq2 hq0 ⊢
  have HQQ := Lib.hid hqq; clear hqq
  clear hD hS hown
  go_wp2_with fail
  refine (take_any d 128 l w2 hD2 (by decide) (by omega)).mono ?_
  rintro e w3 htk
  unfold TakeP at htk
  by_cases hlt : l.length < 128
  · rw [if_pos hlt] at htk
    obtain ⟨rfl, rfl⟩ := htk
    have hres : rqM 1 y l acc = .bad 152 := by unfold rqM; rw [if_pos (by omega)]
    have HR := Lib.hid hres; clear hres
    go_wp2_with fail
    go_ret
    rw [HR.out]
    exact ⟨rfl, by decide, hbut2, gr2.size⟩
  rw [if_neg hlt] at htk
  obtain ⟨rfl, rfl⟩ := htk
  have hq3 := hq2.far (p := ⟨d, 0, none⟩) (by show q ≠ d; omega) (.string (Bs (l.drop 128)))
  have hD3 := StrAt.set (m := l.drop 128) hD2
  have hS3 := hS2.far (p := ⟨d, 0, none⟩) (by show s ≠ d; omega) (.string (Bs (l.drop 128)))
  have hown3 := own_keep hown2 (w' := w2.setCell ⟨d, 0, none⟩ (.string (Bs (l.drop 128)))) (fun g hg => Below.heap_setCell w2 _ _ g (by have := (hown2.lt g hg).1; show g ≠ d; omega))
  have hbut3 : But2 base d s w (w2.setCell ⟨d, 0, none⟩ (.string (Bs (l.drop 128)))) := hbut2.trans (But2.of_grown (grown_one _) (fun g e => .inl (by injection e with e; exact e.symm)) (by have := gr2.size; have := HQQ.out; omega))
  have hz3 : base ≤ (w2.setCell ⟨d, 0, none⟩ (.string (Bs (l.drop 128)))).heap.size := by have := gr2.size; have := HQQ.out; simp; omega
  generalize w2.setCell ⟨d, 0, none⟩ (.string (Bs (l.drop 128))) = w3 at hq3 hD3 hS3 hown3 hbut3 hz3 ⊢
  clear hq2 hD2 hS2 hown2 hbut2 gr2
  clear w2
  have hlen : 128 ≤ l.length := by omega
  have htl : (tab2 l).length = 64 := tab2_length l
  have HTL := Lib.hid htl; clear htl
  have hL : (Bs (l.take 128)).size = 128 := by rw [Bs_size, List.length_take]; omega
  have hbyte : ∀ k, k < 128 → ∀ h : k < (Bs (l.take 128)).size, ((Bs (l.take 128))[k]).toNat = nb l k := fun k hk h => by
    rw [Bs_get]
    unfold nb
    rw [List.getD_eq_getElem?_getD, List.getD_eq_getElem?_getD, List.getElem?_take, if_pos hk]
  generalize Bs (l.take 128) = LB at hL hbyte ⊢
  have HBY := Lib.hid hbyte; clear hbyte
  go_upto_region 7 with fail
  go_loopw [32] (fun i wr => ∃ k : Nat, k ≤ 64 ∧ i = .int .i64 k ∧ Blk wr q 81 (quantF y true (tab2 l) k).toArray ∧ w3.grownBy wr (some q)) (fun i _ => 64 - (intOf i).toNat)
  case atStart => exact ⟨0, by omega, rfl, hq3, grown_of_below (Below.refl _ _) _⟩
  clear hq3
  case round =>
    obtain ⟨k, hk, rfl, hB, hG⟩ := hrel
    by_cases hlt : k < 64
    · have hk0 : 0 ≤ (k : Int) := by omega
      have hk64 : (k : Int) < 64 := by omega
      go_upto_region 10 with fail
      go_loopw [36] (fun i wi => ∃ j : Nat, j ≤ 2 ∧ i = .int .i64 j ∧ Blk wi q 81 ((quantF y true (tab2 l) k).set (2 + k) (.int .u16 (qv 1 k j l : Nat))).toArray ∧ w3.grownBy wi (some q)) (fun i _ => 2 - (intOf i).toNat)
      case atStart => exact ⟨0, by omega, rfl, by rw [qv_zero y true (tab2 l) k l 1 hlt HTL.out]; exact hB, hG⟩
      clear hB hG
      case round =>
        obtain ⟨j, hj, rfl, hB, hG⟩ := hrel
        have hcell : wr.cell? ⟨q, 2 + k, none⟩ = some (.int .u16 (qv 1 k j l : Nat)) := by rw [hB.cell, qv_get y true (tab2 l) k l 1 j hlt HTL.out]
        by_cases hjl : j < 2
        · obtain rfl | rfl : j = 0 ∨ j = 1 := by omega
          · have hby : ∀ h : k * 2 < LB.size, (LB[k * 2]).toNat = nb l (2 * k) := fun h => by rw [HBY.out (k * 2) (by omega) h]; rw [Nat.mul_comm]
            have hnb := nb_lt l (2 * k)
            have hq9 : qv 1 k 0 l = 0 := rfl
            rw [hq9] at hcell
            have hq8 : qv 1 k 1 l = nb l (2 * k) := rfl
            generalize nb l (2 * k) = B1 at hby hnb hq8
            have HQ8 := Lib.hid hq8; clear hq8
            go_upto_region 12 with fail
            have hw8 : IntKind.i64.wrap ((k : Int)) = (k : Int) := IntWalk.i64_in _ (by omega)
            have hw9 : IntKind.i64.wrap ((k : Int) * 2) = (k : Int) * 2 := IntWalk.i64_in _ (by omega)
            have hi0 : 0 ≤ (k : Int) * 2 := by omega
            have hi1 : (k : Int) * 2 < 128 := by omega
            have hi2 : ((k : Int) * 2).toNat = k * 2 := by omega
            have hw16 : IntKind.u16.wrap (B1 : Int) = B1 := by rw [IntKind.wrap_u16]; omega
            have hwc : IntKind.u16.wrap 0 = 0 := rfl
            have hor : bits .or .u16 0 (B1 : Int) = (B1 : Int) := by
              have h9 := u16_or_nat 0 B1 (by omega) (by omega)
              simpa using h9
            refine LexZ.wp_region [] 17 rfl _ rfl rfl (fun u => u.cell? ⟨q, 2 + k, none⟩ = some (.int .u16 0)) (fun u n h => h) hcell (by kernel_rfl) ?_
            refine LexZ.take 0 (by rfl) (by kernel_rfl) (Lex4.free_ (v := ?_) (by rfl) (by rfl) (fun u => ?_) ?_); rotate_left; (go_simp; try with_reducible rfl); simp only [Act.put, zA, zB, zC]
            refine LexZ.take 1 (by rfl) (by kernel_rfl) (Lex4.free_ (v := ?_) (by rfl) (by rfl) (fun u => ?_) ?_); rotate_left; (go_simp; try with_reducible rfl); simp only [Act.put, zA, zB, zC]
            refine LexZ.take 2 (by rfl) (by kernel_rfl) (Lex4.free_ (v := ?_) (by rfl) (by rfl) (fun u => ?_) ?_); rotate_left; (go_simp; try with_reducible rfl); simp only [Act.put, zA, zB, zC]
            refine LexZ.take 3 (by rfl) (by kernel_rfl) (Lex4.free_ (v := ?_) (by rfl) (by rfl) (fun u => ?_) ?_); rotate_left; (go_simp; try with_reducible rfl); simp only [Act.put, zA, zB, zC]
            refine LexZ.take 4 (by rfl) (by kernel_rfl) (Lex4.load_ (v := ?_) (by rfl) (by rfl) (fun u hu => ?_) ?_); rotate_left; (go_simp; try with_reducible rfl); simp only [Act.put, zA, zB, zC]
            refine LexZ.take 5 (by rfl) (by kernel_rfl) (Lex4.free_ (v := ?_) (by rfl) (by rfl) (fun u => ?_) ?_); rotate_left; (go_simp; try with_reducible rfl); simp only [Act.put, zA, zB, zC]
            refine LexZ.take 6 (by rfl) (by kernel_rfl) (Lex4.free_ (v := ?_) (by rfl) (by rfl) (fun u => ?_) ?_); rotate_left; (go_simp; try with_reducible rfl); simp only [Act.put, zA, zB, zC]
            refine LexZ.take 7 (by rfl) (by kernel_rfl) (Lex4.free_ (v := ?_) (by rfl) (by rfl) (fun u => ?_) ?_); rotate_left; (go_simp; try with_reducible rfl); simp only [Act.put, zA, zB, zC]
            refine LexZ.take 8 (by rfl) (by kernel_rfl) (Lex4.free_ (v := ?_) (by rfl) (by rfl) (fun u => ?_) ?_); rotate_left; (go_simp; try with_reducible rfl); simp only [Act.put, zA, zB, zC]
            refine LexZ.take 9 (by rfl) (by kernel_rfl) (Lex4.free_ (v := ?_) (by rfl) (by rfl) (fun u => ?_) ?_); rotate_left; (go_simp; try with_reducible rfl); simp only [Act.put, zA, zB, zC]
            refine LexZ.take 10 (by rfl) (by kernel_rfl) (Lex4.free_ (v := ?_) (by rfl) (by rfl) (fun u => ?_) ?_); rotate_left; (go_simp; try with_reducible rfl); simp only [Act.put, zA, zB, zC]
            refine LexZ.take 11 (by rfl) (by kernel_rfl) (Lex4.free_ (v := ?_) (by rfl) (by rfl) (fun u => ?_) ?_); rotate_left; (go_simp; try with_reducible rfl); simp only [Act.put, zA, zB, zC]
            refine LexZ.take 12 (by rfl) (by kernel_rfl) (Lex4.free_ (v := ?_) (by rfl) (by rfl) (fun u => ?_) ?_); rotate_left; (go_simp; try with_reducible rfl); simp only [Act.put, zA, zB, zC]
            try simp only [hby]
            refine LexZ.take 13 (by rfl) (by kernel_rfl) (Lex4.free_ (v := ?_) (by rfl) (by rfl) (fun u => ?_) ?_); rotate_left; (go_simp; try with_reducible rfl); simp only [Act.put, zA, zB, zC]
            refine LexZ.take 14 (by rfl) (by kernel_rfl) (Lex4.free_ (v := ?_) (by rfl) (by rfl) (fun u => ?_) ?_); rotate_left; (go_simp; try with_reducible rfl); simp only [Act.put, zA, zB, zC]
            refine LexZ.take 15 (by rfl) (by kernel_rfl) (Lex4.free_ (v := ?_) (by rfl) (by rfl) (fun u => ?_) ?_); rotate_left; (go_simp; try with_reducible rfl); simp only [Act.put, zA, zB, zC]
            refine LexZ.take 16 (by rfl) (by kernel_rfl) (Lex4.free_ (v := ?_) (by rfl) (by rfl) (fun u => ?_) ?_); rotate_left; (go_simp; try with_reducible rfl); simp only [Act.put, zA, zB, zC]
            refine LexZ.done (by kernel_rfl) (by kernel_rfl) (fun n9 => ?_)
            have hB9 : Blk (wr.drew.drewN n9) q 81 _ := hB
            have hG9 : w3.grownBy (wr.drew.drewN n9) (some q) := grown_drewN (grown_drewN hG 1) n9
            have hcell9 : (wr.drew.drewN n9).cell? ⟨q, 2 + k, none⟩ = some (.int .u16 0) := hcell
            clear hB hG hcell
            generalize wr.drew.drewN n9 = w9 at hB9 hG9 hcell9 ⊢
            have hf9 : w9.frozen? ⟨q, 2 + k, none⟩ = false := hB9.frozen _
            have hB10 := hB9.set (2 + k) (.int .u16 (qv 1 k 1 l : Nat))
            rw [List.setIfInBounds_toArray, List.set_set] at hB10
            have hG10 := grown_set hG9 (2 + k) (.int .u16 (qv 1 k 1 l : Nat))
            have hqi : ((qv 1 k 1 l : Nat) : Int) = (B1 : Int) := by rw [HQ8.out]
            rw [hqi] at hB10 hG10
            have HB10 := Lib.hid hB10
            have HG10 := Lib.hid hG10
            clear hB10 hG10 hqi
            go_simp
            go_wp2_with fail
            go_roundw
            case rel => exact ⟨1, by omega, by go_num, by rw [show ((qv 1 k 1 l : Nat) : Int) = (B1 : Int) from by rw [HQ8.out]]; exact HB10.out, HG10.out⟩
            case measure => simp [intOf]
          · have hby : ∀ h : k * 2 + 1 < LB.size, (LB[k * 2 + 1]).toNat = nb l (2 * k + 1) := fun h => by rw [HBY.out (k * 2 + 1) (by omega) h]; rw [Nat.mul_comm]
            have hnb := nb_lt l (2 * k + 1)
            have hq9 : qv 1 k 1 l = nb l (2 * k) := rfl
            rw [hq9] at hcell
            have hnb0 := nb_lt l (2 * k)
            have hq8 : qv 1 k 2 l = 256 * nb l (2 * k) + nb l (2 * k + 1) := rfl
            generalize nb l (2 * k) = B0 at hcell hnb0 hq8
            generalize nb l (2 * k + 1) = B1 at hby hnb hq8
            have HQ8 := Lib.hid hq8; clear hq8
            go_upto_region 12 with fail
            have hw10 : IntKind.i64.wrap ((k : Int)) = (k : Int) := IntWalk.i64_in _ (by omega)
            have hw11 : IntKind.i64.wrap ((k : Int) * 2) = (k : Int) * 2 := IntWalk.i64_in _ (by omega)
            have hw12 : IntKind.i64.wrap ((k : Int) * 2 + 1) = (k : Int) * 2 + 1 := IntWalk.i64_in _ (by omega)
            have hi0 : 0 ≤ (k : Int) * 2 + 1 := by omega
            have hi1 : (k : Int) * 2 + 1 < 128 := by omega
            have hi2 : ((k : Int) * 2 + 1).toNat = k * 2 + 1 := by omega
            have hw16 : IntKind.u16.wrap (B1 : Int) = B1 := by rw [IntKind.wrap_u16]; omega
            have hwc : IntKind.u16.wrap ((B0 : Int) * 256) = 256 * (B0 : Int) := by rw [IntKind.wrap_u16]; omega
            have hor : bits .or .u16 (256 * (B0 : Int)) (B1 : Int) = 256 * (B0 : Int) + (B1 : Int) := by
              have h9 := u16_or_nat (256 * B0) B1 (by omega) (by omega)
              have h8 := Nat.two_pow_add_eq_or_of_lt (i := 8) (b := B1) (by omega) B0
              rw [show 2 ^ 8 * B0 = 256 * B0 from rfl] at h8
              rw [← h8] at h9
              simpa using h9
            refine LexZ.wp_region [] 17 rfl _ rfl rfl (fun u => u.cell? ⟨q, 2 + k, none⟩ = some (.int .u16 B0)) (fun u n h => h) hcell (by kernel_rfl) ?_
            refine LexZ.take 0 (by rfl) (by kernel_rfl) (Lex4.free_ (v := ?_) (by rfl) (by rfl) (fun u => ?_) ?_); rotate_left; (go_simp; try with_reducible rfl); simp only [Act.put, zA, zB, zC]
            refine LexZ.take 1 (by rfl) (by kernel_rfl) (Lex4.free_ (v := ?_) (by rfl) (by rfl) (fun u => ?_) ?_); rotate_left; (go_simp; try with_reducible rfl); simp only [Act.put, zA, zB, zC]
            refine LexZ.take 2 (by rfl) (by kernel_rfl) (Lex4.free_ (v := ?_) (by rfl) (by rfl) (fun u => ?_) ?_); rotate_left; (go_simp; try with_reducible rfl); simp only [Act.put, zA, zB, zC]
            refine LexZ.take 3 (by rfl) (by kernel_rfl) (Lex4.free_ (v := ?_) (by rfl) (by rfl) (fun u => ?_) ?_); rotate_left; (go_simp; try with_reducible rfl); simp only [Act.put, zA, zB, zC]
            refine LexZ.take 4 (by rfl) (by kernel_rfl) (Lex4.load_ (v := ?_) (by rfl) (by rfl) (fun u hu => ?_) ?_); rotate_left; (go_simp; try with_reducible rfl); simp only [Act.put, zA, zB, zC]
            refine LexZ.take 5 (by rfl) (by kernel_rfl) (Lex4.free_ (v := ?_) (by rfl) (by rfl) (fun u => ?_) ?_); rotate_left; (go_simp; try with_reducible rfl); simp only [Act.put, zA, zB, zC]
            refine LexZ.take 6 (by rfl) (by kernel_rfl) (Lex4.free_ (v := ?_) (by rfl) (by rfl) (fun u => ?_) ?_); rotate_left; (go_simp; try with_reducible rfl); simp only [Act.put, zA, zB, zC]
            refine LexZ.take 7 (by rfl) (by kernel_rfl) (Lex4.free_ (v := ?_) (by rfl) (by rfl) (fun u => ?_) ?_); rotate_left; (go_simp; try with_reducible rfl); simp only [Act.put, zA, zB, zC]
            refine LexZ.take 8 (by rfl) (by kernel_rfl) (Lex4.free_ (v := ?_) (by rfl) (by rfl) (fun u => ?_) ?_); rotate_left; (go_simp; try with_reducible rfl); simp only [Act.put, zA, zB, zC]
            refine LexZ.take 9 (by rfl) (by kernel_rfl) (Lex4.free_ (v := ?_) (by rfl) (by rfl) (fun u => ?_) ?_); rotate_left; (go_simp; try with_reducible rfl); simp only [Act.put, zA, zB, zC]
            refine LexZ.take 10 (by rfl) (by kernel_rfl) (Lex4.free_ (v := ?_) (by rfl) (by rfl) (fun u => ?_) ?_); rotate_left; (go_simp; try with_reducible rfl); simp only [Act.put, zA, zB, zC]
            refine LexZ.take 11 (by rfl) (by kernel_rfl) (Lex4.free_ (v := ?_) (by rfl) (by rfl) (fun u => ?_) ?_); rotate_left; (go_simp; try with_reducible rfl); simp only [Act.put, zA, zB, zC]
            refine LexZ.take 12 (by rfl) (by kernel_rfl) (Lex4.free_ (v := ?_) (by rfl) (by rfl) (fun u => ?_) ?_); rotate_left; (go_simp; try with_reducible rfl); simp only [Act.put, zA, zB, zC]
            try simp only [hby]
            refine LexZ.take 13 (by rfl) (by kernel_rfl) (Lex4.free_ (v := ?_) (by rfl) (by rfl) (fun u => ?_) ?_); rotate_left; (go_simp; try with_reducible rfl); simp only [Act.put, zA, zB, zC]
            refine LexZ.take 14 (by rfl) (by kernel_rfl) (Lex4.free_ (v := ?_) (by rfl) (by rfl) (fun u => ?_) ?_); rotate_left; (go_simp; try with_reducible rfl); simp only [Act.put, zA, zB, zC]
            refine LexZ.take 15 (by rfl) (by kernel_rfl) (Lex4.free_ (v := ?_) (by rfl) (by rfl) (fun u => ?_) ?_); rotate_left; (go_simp; try with_reducible rfl); simp only [Act.put, zA, zB, zC]
            refine LexZ.take 16 (by rfl) (by kernel_rfl) (Lex4.free_ (v := ?_) (by rfl) (by rfl) (fun u => ?_) ?_); rotate_left; (go_simp; try with_reducible rfl); simp only [Act.put, zA, zB, zC]
            refine LexZ.done (by kernel_rfl) (by kernel_rfl) (fun n9 => ?_)
            have hB9 : Blk (wr.drew.drewN n9) q 81 _ := hB
            have hG9 : w3.grownBy (wr.drew.drewN n9) (some q) := grown_drewN (grown_drewN hG 1) n9
            have hcell9 : (wr.drew.drewN n9).cell? ⟨q, 2 + k, none⟩ = some (.int .u16 B0) := hcell
            clear hB hG hcell
            generalize wr.drew.drewN n9 = w9 at hB9 hG9 hcell9 ⊢
            have hf9 : w9.frozen? ⟨q, 2 + k, none⟩ = false := hB9.frozen _
            have hB10 := hB9.set (2 + k) (.int .u16 (qv 1 k 2 l : Nat))
            rw [List.setIfInBounds_toArray, List.set_set] at hB10
            have hG10 := grown_set hG9 (2 + k) (.int .u16 (qv 1 k 2 l : Nat))
            have hqi : ((qv 1 k 2 l : Nat) : Int) = 256 * (B0 : Int) + (B1 : Int) := by rw [HQ8.out]; omega
            rw [hqi] at hB10 hG10
            have HB10 := Lib.hid hB10
            have HG10 := Lib.hid hG10
            clear hB10 hG10 hqi
            go_simp
            go_wp2_with fail
            go_roundw
            case rel => exact ⟨2, by omega, by go_num, by rw [show ((qv 1 k 2 l : Nat) : Int) = 256 * (B0 : Int) + (B1 : Int) from by rw [HQ8.out]; omega]; exact HB10.out, HG10.out⟩
            case measure => simp [intOf]
        · obtain rfl : j = 2 := by omega
          have hnx := quantF_set y true (tab2 l) k hlt HTL.out
          have hqe : qv 1 k 2 l = (tab2 l).getD k 0 := by rw [tab2_get l hlt]; rfl
          rw [hqe, hnx] at hB
          clear hcell hnx hqe
          go_wp2_with fail
          go_roundw
          case rel => exact ⟨k + 1, by omega, by go_num, hB, hG⟩
          case measure => simp [intOf]; omega
    · obtain rfl : k = 64 := by omega
      rw [quantF_all _ _ _ HTL.out] at hB
      have hown4 := own_grown hown3 hG (.inr fun e => by have := (HOWN.out.lt q e).2; have := HQQ.out; omega)
      have hD4 := hD3.grown hG (fun e => by injection e; omega)
      have hS4 := hS3.grown hG (fun e => by injection e; omega)
      have hbut4 := hbut3.trans (But2.of_grown hG (fun g e => .inr (.inr (by injection e; omega))) hz3)
      have hz4 : base ≤ wr.heap.size := Nat.le_trans hz3 hG.size
      clear hD3 hS3 hown3 hbut3 hz3 hG HBY hL
      have hT3 : ∀ j, j < 64 → wr.cell? ⟨q, 2 + j, none⟩ = some (.int .u16 ((tab2 l).getD j 0 : Nat)) := fun j hj => by
        rw [hB.cell]
        unfold quantC
        rw [show 2 + j = (j + 1) + 1 by omega, List.getElem?_toArray, List.getElem?_cons_succ, List.getElem?_cons_succ, List.getElem?_map, List.getD_eq_getElem?_getD, List.getElem?_eq_getElem (by rw [HTL.out]; exact hj)]
        rfl
      have HT3 := Lib.hid hT3; clear hT3
      have e1 : wr.cell? ⟨q, 1, none⟩ = some (.bool true) := by rw [hB.cell]; rfl
      have hqc : qcM (tab2 l) true = if zeroM (tab2 l) then 80 else 0 := by
        unfold qcM
        simp
      go_wp2_with fail
      refine (quantCheck_any (tab2 l) true q 2 wr HTL.out HT3.out).mono ?_
      rintro e w5 ⟨rfl, rfl⟩
      rw [hqc]
      clear e1 hqc
      cases hzero : zeroM (tab2 l) with
      | true =>
        have hres : rqM 1 y l acc = .bad 153 := by
          unfold rqM
          rw [if_neg (by omega), show tabOf (1 == 1) l = tab2 l from rfl, hzero]
          rfl
        have HR := Lib.hid hres; clear hres hzero
        go_wp2_with fail
        go_ret
        rw [HR.out]
        exact ⟨rfl, by decide, hbut4, hbut4.size⟩
      | false =>
      have hres : rqM 1 y l acc = .ok (l.drop 128, acc ++ [⟨y, true, tab2 l⟩]) := by
        unfold rqM
        rw [if_neg (by omega), show tabOf (1 == 1) l = tab2 l from rfl, hzero]
        rfl
      have HR := Lib.hid hres; clear hres hzero
      obtain ⟨iq, iq1, iq2, iq3, iq4⟩ := info_parts infoQ
      obtain ⟨zqv, hzqv⟩ : ∃ z, z = Value.agg (quantF 0 false [] 0).toArray := ⟨_, rfl⟩
      rw [← hzqv] at iq2
      have iq5 : zqv.cells.size = 66 := by rw [hzqv]; rfl
      clear hzqv
      have IQ := Lib.hid (And.intro iq1 (And.intro iq2 (And.intro iq3 (And.intro iq4 iq5)))); clear iq1 iq2 iq3 iq4 iq5
      have hC := quantC_length ⟨y, true, tab2 l⟩ HTL.out
      have hC1 := quantC_one ⟨y, true, tab2 l⟩
      have HC := Lib.hid (And.intro hC hC1); clear hC hC1
      generalize hcs : quantC ⟨y, true, tab2 l⟩ = cs at hB HC
      have HCS := Lib.hid hcs; clear hcs
      have hs3 : wr.cell? ⟨s, 3, none⟩ = some vq := by rw [hS4.cell]; rfl
      have hI : wr.cell? ⟨s, 3, none⟩ = some vq ∧ Blk wr q 81 cs.toArray := ⟨hs3, hB⟩
      go_upto_region 17 with fail
      refine LexZ.wp_region [] 10 rfl _ rfl rfl (fun u => u.cell? ⟨s, 3, none⟩ = some vq ∧ Blk u q 81 cs.toArray) (fun u n h => h) hI (by kernel_rfl) ?_
      refine LexZ.take 0 (by rfl) (by kernel_rfl) (Lex4.free_ (v := ?_) (by rfl) (by rfl) (fun u => ?_) ?_); rotate_left; (go_simp; try with_reducible rfl); simp only [Act.put, zA, zB, zC]
      refine LexZ.take 1 (by rfl) (by kernel_rfl) (Lex4.free_ (v := ?_) (by rfl) (by rfl) (fun u => ?_) ?_); rotate_left; (go_simp; try with_reducible rfl); simp only [Act.put, zA, zB, zC]
      refine LexZ.take 2 (by rfl) (by kernel_rfl) (Lex4.free_ (v := ?_) (by rfl) (by rfl) (fun u => ?_) ?_); rotate_left; (go_simp; try with_reducible rfl); simp only [Act.put, zA, zB, zC]
      refine LexZ.take 3 (by rfl) (by kernel_rfl) (Lex4.free_ (v := ?_) (by rfl) (by rfl) (fun u => ?_) ?_); rotate_left; (go_simp; try with_reducible rfl); simp only [Act.put, zA, zB, zC]
      refine LexZ.take 4 (by rfl) (by kernel_rfl) (Lex4.load_ (v := ?_) (by rfl) (by rfl) (fun u hu => ?_) ?_); rotate_left; (obtain ⟨hu0, hu1⟩ := hu; go_simp; try with_reducible rfl); simp only [Act.put, zA, zB, zC]
      refine LexZ.take 5 (by rfl) (by kernel_rfl) (Lex4.load_ (v := .agg cs.toArray) (by rfl) (by rfl) (fun u hu => val_load_mid 81 (.tmp 7) rfl q 0 rfl cs _ (hu.2.range 0 cs (by simp)) Tryz.underlying81 rfl (by rw [HC.out.1]; exact size66)) ?_); simp only [Act.put, zA, zB, zC]
      have hB5 : Blk wr.drew q 81 cs.toArray := hB
      have hS5 : Blk wr.drew s 31 (segC m vq nilS nilS nilS nilS) := hS4
      have hD5 : StrAt 136 wr.drew d (l.drop 128) := hD4
      have ho5 : wr.drew.ownsRow base 81 66 vq acc.length (acc.flatMap quantC) := hown4
      have hb5 : But2 base d s w wr.drew := hbut4.drew 1
      have hz5 : base ≤ wr.drew.heap.size := hz4
      clear hB hS4 hD4 hown4 hbut4 hz4 hI hs3
      generalize wr.drew = W0 at hB5 hS5 hD5 ho5 hb5 hz5 ⊢
      refine LexZ.take 6 (by rfl) (by kernel_rfl) (Lex4.eff_ (by rfl) (by rfl) (fun n1 K1 hK1 => ?_))
      have hB6 : Blk (W0.drewN n1) q 81 cs.toArray := hB5
      have hS6 : Blk (W0.drewN n1) s 31 (segC m vq nilS nilS nilS nilS) := hS5
      have hD6 : StrAt 136 (W0.drewN n1) d (l.drop 128) := hD5
      have ho6 : (W0.drewN n1).ownsRow base 81 66 vq acc.length (acc.flatMap quantC) := ho5
      have hb6 : But2 base d s w (W0.drewN n1) := hb5.drew n1
      have hz6 : base ≤ (W0.drewN n1).heap.size := hz5
      clear hB5 hS5 hD5 ho5 hb5 hz5
      generalize W0.drewN n1 = W1 at hB6 hS6 hD6 ho6 hb6 hz6 ⊢
      refine wp_buildOne 23 81 (.tmp 68) rfl cs.toArray rfl iq zqv 66 Tryz.underlying23 IQ.out.1 IQ.out.2.1 IQ.out.2.2.1 (by rw [List.size_toArray]; exact HC.out.1) (by decide) (by decide) ?_
      have hB7 := hB6.alloc (.cells cs.toArray 81)
      have hS7 := hS6.alloc (.cells cs.toArray 81)
      have hD7 := hD6.alloc (.cells cs.toArray 81)
      have ho7 := ho6.alloc (.cells cs.toArray 81)
      have hb7 : But2 base d s w (W1.alloc (.cells cs.toArray 81)) := hb6.trans (But2.of_below ((Below.refl _ _).alloc hz6 _))
      have hn7 := Blk.new W1 81 cs.toArray
      have hz7 : base ≤ (W1.alloc (.cells cs.toArray 81)).heap.size := by simp; omega
      refine hK1 _ _ ⟨by rw [hS7.cell]; rfl, hB7⟩ ?_
      clear hB6 hS6 hD6 ho6 hb6 hK1 K1
      generalize hbn : W1.heap.size = bn at hn7 hz6 ⊢
      generalize W1.alloc (.cells cs.toArray 81) = W2 at hB7 hS7 hD7 ho7 hb7 hn7 hz7 ⊢
      clear hbn
      try simp only [Act.put, zA, zB, zC]
      refine LexZ.take 7 (by rfl) (by kernel_rfl) (Lex4.eff_ (by rfl) (by rfl) (fun n2 K2 hK2 => ?_))
      have hB8 : Blk (W2.drewN n2) q 81 cs.toArray := hB7
      have hS8 : Blk (W2.drewN n2) s 31 (segC m vq nilS nilS nilS nilS) := hS7
      have hD8 : StrAt 136 (W2.drewN n2) d (l.drop 128) := hD7
      have ho8 : (W2.drewN n2).ownsRow base 81 66 vq acc.length (acc.flatMap quantC) := ho7
      have hb8 : But2 base d s w (W2.drewN n2) := hb7.drew n2
      have hn8 : Blk (W2.drewN n2) bn 81 cs.toArray := hn7
      have hz8 : base ≤ (W2.drewN n2).heap.size := hz7
      clear hB7 hS7 hD7 ho7 hb7 hn7 hz7
      generalize W2.drewN n2 = W3 at hB8 hS8 hD8 ho8 hb8 hn8 hz8 ⊢
      refine wp_append_lies W3 (.tmp 67) (.tmp 69) 23 rfl base 81 iq zqv 66 130 Tryz.underlying23 IQ.out.1 IQ.out.2.1 IQ.out.2.2.1 IQ.out.2.2.2.1 IQ.out.2.2.2.2 (by decide) vq acc.length (acc.flatMap quantC) (by rfl) ho8 ⟨bn, 0, none⟩ 1 1 cs (by rfl) (by rw [HC.out.1]) (fun i u hu => by rw [Addr.add_mid, hn8.cell, Nat.zero_add]; simpa using hu) HC.out.2 (by decide) (by unfold maxLen; omega) (by omega) hz8 W3.heap.size rfl ?_
      intro gg cap W4 ho9 hgr9 hat9 hlt9
      have hne : ∀ g, vq.ownBlock = some g → base ≤ g := fun g e => (ho8.lt g e).1
      have hS9 := hS8.grown hgr9 (fun e => by have := hne s e.symm; omega)
      have hD9 := hD8.grown hgr9 (fun e => by have := hne d e.symm; omega)
      have hb9 := hb8.trans (But2.of_grown hgr9 (fun g e => .inr (.inr (hne g e))) hz8)
      have hB9 := hB8.grown hgr9 (fun e => by have h1 := (HOWN.out.lt q e.symm).2; have := HQQ.out; omega)
      refine hK2 _ _ ⟨by rw [hS9.cell]; rfl, hB9⟩ ?_
      clear hK2 K2 hS8 hD8 ho8 hb8 hn8 hB8
      try simp only [Act.put, zA, zB, zC]
      refine LexZ.take 8 (by rfl) (by kernel_rfl) (Lex4.free_ (v := ?_) (by rfl) (by rfl) (fun u => ?_) ?_); rotate_left; (go_simp; try with_reducible rfl); simp only [Act.put, zA, zB, zC]
      refine LexZ.take 9 (by rfl) (by kernel_rfl) (Lex4.free_ (v := ?_) (by rfl) (by rfl) (fun u => ?_) ?_); rotate_left; (go_simp; try with_reducible rfl); simp only [Act.put, zA, zB, zC]
      refine LexZ.done (by kernel_rfl) (by kernel_rfl) (fun n9 => ?_)
      have hS10 : Blk (W4.drewN n9) s 31 (segC m vq nilS nilS nilS nilS) := hS9
      have hD10 : StrAt 136 (W4.drewN n9) d (l.drop 128) := hD9
      have ho10 := ho9
      have hb10 := hb9.drew n9
      have hz10 : W3.heap.size ≤ (W4.drewN n9).heap.size := hgr9.size
      have hlt10 : gg < (W4.drewN n9).heap.size := hlt9
      replace ho10 : (W4.drewN n9).ownsRow base 81 66 (.slice (some ⟨gg, 0, none⟩) (acc.length + 1) cap) (acc.length + 1) (acc.flatMap quantC ++ cs) := ho9
      clear hS9 hD9 ho9 hb9 hgr9 hat9 hlt9 hB9
      generalize W4.drewN n9 = W5 at hS10 hD10 ho10 hb10 hz10 hlt10 ⊢
      have hc10 : W5.cell? ⟨s, 3, none⟩ = some vq := by rw [hS10.cell]; rfl
      have hf10 : W5.frozen? ⟨s, 3, none⟩ = false := hS10.frozen _
      have hS11 := hS10.set 3 (.slice (some ⟨gg, 0, none⟩) (acc.length + 1) cap)
      have hD11 := hD10.far (p := ⟨s, 3, none⟩) hds (.slice (some ⟨gg, 0, none⟩) (acc.length + 1) cap)
      have ho11 := own_keep ho10 (w' := W5.setCell ⟨s, 3, none⟩ (.slice (some ⟨gg, 0, none⟩) (acc.length + 1) cap)) (fun g hg => Below.heap_setCell W5 _ _ g (by have := (ho10.lt g hg).1; show g ≠ s; omega))
      have hb11 : But2 base d s w (W5.setCell ⟨s, 3, none⟩ (.slice (some ⟨gg, 0, none⟩) (acc.length + 1) cap)) := hb10.trans (But2.of_grown (w5_one W5 s _) (fun g e => .inr (.inl (by injection e with e; exact e.symm))) (by omega))
      have HF := Lib.hid (And.intro hS11 (And.intro hD11 (And.intro ho11 hb11))); clear hS11 hD11 ho11 hb11 hS10 hD10 ho10 hb10
      go_simp
      go_wp2_with fail
      go_ret
      rw [HR.out]
      refine ⟨rfl, _, HF.out.2.1, HF.out.1, ?_, HF.out.2.2.2⟩
      rw [List.length_append, List.flatMap_append, show [(⟨y, true, tab2 l⟩ : QuantM)].flatMap quantC = cs by rw [← HCS.out]; simp]
      exact HF.out.2.2.1
end Go.Proofs.YtjfgfoeenajneaaGreatDoor.Sg
