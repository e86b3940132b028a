/- Tables of codes: the document's check and the program's. Bytes written as strings. Tables of codes: the document's check. Tables of codes: the program's check. -/
import Derived.Test.YtjfgfoeenajneaaGreatDoorGA2
import Derived.BigQuiet
import Derived.Deep.QuietTactic
import Derived.Test.YtjfgfoeenajneaaGreatDoorGA5
import Derived.Lib.SlBytesRow
import Derived.Laws.BytesString
import Derived.Laws.Concat
import Derived.ChangeKeysEq
namespace Go.Proofs.YtjfgfoeenajneaaGreatDoor.Sg
open Go.RowKit

def u8s (t : List Nat) : List Value := t.map fun (n : Nat) => Value.int .u8 (n : Int)
theorem u8s_get {t : List Nat} {k : Nat} (h : k < t.length) : (u8s t)[k]? = some (.int .u8 (t.getD k 0 : Nat)) := by
  unfold u8s
  rw [List.getElem?_map, List.getElem?_eq_getElem h, List.getD_eq_getElem?_getD, List.getElem?_eq_getElem h]
  rfl
theorem u8s_length (t : List Nat) : (u8s t).length = t.length := by simp [u8s]
/-- a table of codes by value -/
def specC (cnt : List Nat) (v : Value) : List Value := u8s cnt ++ [v]
theorem specC_cnt {cnt : List Nat} {v : Value} {k : Nat} (h : k < cnt.length) : (specC cnt v).toArray[k]? = some (.int .u8 (cnt.getD k 0 : Nat)) := by
  unfold specC
  rw [List.getElem?_toArray, List.getElem?_append_left (by rw [u8s_length]; exact h), u8s_get h]
theorem specC_val {cnt : List Nat} {v : Value} (h : cnt.length = 16) : (specC cnt v).toArray[16]? = some v := by
  unfold specC
  rw [List.getElem?_toArray, List.getElem?_append_right (by rw [u8s_length]; omega), u8s_length, h]
  rfl
def pw (k : Nat) : Nat := 2 ^ k
set_option maxHeartbeats 1000000 in
theorem power_any (n : Nat) (w : World) (hn : n ≤ 16) : Calls Tryz.prog 120 #[.int .i64 (n : Int)] w fun e w' => e = .returned (.int .i64 (pw n : Nat)) ∧ w = w' := by
  go_enter Tryz.func120, Tryz.ntmps120
  go_wp2_with fail
  go_loop [3, 4] (fun p i => ∃ k : Nat, k ≤ n ∧ i = .int .i64 k ∧ p = .int .i64 (pw k : Nat)) (fun _ i => n - (intOf i).toNat)
  case atStart => exact ⟨0, by omega, rfl, rfl⟩
  case round =>
    obtain ⟨k, hk, rfl, rfl⟩ := hrel
    by_cases hlt : k < n
    · have hb : pw k ≤ 65536 := by unfold pw; exact Nat.le_trans (Nat.pow_le_pow_right (by omega) (show k ≤ 16 by omega)) (by decide)
      have hs : ((pw (k + 1) : Nat) : Int) = 2 * (pw k : Nat) := by unfold pw; rw [Nat.pow_succ]; omega
      generalize pw k = a at hb hs ⊢
      have HS := Lib.hid hs; clear hs
      go_wp2_with fail
      go_round
      case rel => exact ⟨k + 1, by omega, by go_num, by rw [HS.out]⟩
      case measure => simp [intOf]; omega
    · obtain rfl : k = n := by omega
      go_wp2_with fail
      go_ret
      exact ⟨rfl, rfl⟩
theorem sTo_le (c : List Nat) (h : ∀ x ∈ c, x < 256) : ∀ k, sTo c k ≤ 255 * k
  | 0 => Nat.le_refl _
  | k + 1 => by
    have ih := sTo_le c h k
    have : c.getD k 0 ≤ 255 := by
      by_cases hk : k < c.length
      · rw [List.getD_eq_getElem?_getD, List.getElem?_eq_getElem hk]; have := h _ (List.getElem_mem hk); simp; omega
      · rw [List.getD_eq_getElem?_getD, List.getElem?_eq_none (by omega)]; simp
    unfold sTo
    omega
theorem getD_lt {c : List Nat} {m : Nat} (h : ∀ x ∈ c, x < m) (hm : 0 < m) (k : Nat) : c.getD k 0 < m := by
  by_cases hk : k < c.length
  · rw [List.getD_eq_getElem?_getD, List.getElem?_eq_getElem hk]; exact h _ (List.getElem_mem hk)
  · rw [List.getD_eq_getElem?_getD, List.getElem?_eq_none (by omega)]; simpa using hm
theorem wTo_le (c : List Nat) (h : ∀ x ∈ c, x < 256) : ∀ k, wTo c k ≤ 255 * 32768 * k
  | 0 => Nat.le_refl _
  | k + 1 => by
    have ih := wTo_le c h k
    have h1 := getD_lt h (by decide) k
    have h2 : 2 ^ (15 - k) ≤ 32768 := Nat.le_trans (Nat.pow_le_pow_right (by omega) (show 15 - k ≤ 15 by omega)) (by decide)
    have h3 : c.getD k 0 * 2 ^ (15 - k) ≤ 255 * 32768 := Nat.mul_le_mul (by omega) h2
    unfold wTo
    omega
set_option maxRecDepth 100000 in
set_option maxHeartbeats 4000000 in
theorem weight04_any (cnt : List Nat) (v : Value) (w : World) (hl : cnt.length = 16) (hc : ∀ x ∈ cnt, x < 256) :
    Calls Tryz.prog 116 #[.agg (specC cnt v).toArray] w fun e w' => e = .returned (.tuple #[.int .i64 (weightM cnt : Nat), .int .i64 (sumM cnt : Nat)]) ∧ Below w.heap.size w w' := by
  go_enter Tryz.func116, Tryz.ntmps116
  go_wp2_with fail
  have hu : Blk (w.alloc (.cells (specC cnt v).toArray 85)) w.heap.size 85 (specC cnt v).toArray := Blk.new w _ _
  have hb : Below w.heap.size w (w.alloc (.cells (specC cnt v).toArray 85)) := (Below.refl _ _).alloc (Nat.le_refl _) _
  generalize (w.alloc (.cells (specC cnt v).toArray 85)) = w1 at hu hb ⊢
  generalize w.heap.size = a at hu ⊢
  go_loopw [4, 5, 6] (fun s n i wr => ∃ k : Nat, k ≤ 16 ∧ i = .int .i64 ((k : Int) + 1) ∧ s = .int .i64 (wTo cnt k : Nat) ∧ n = .int .i64 (sTo cnt k : Nat) ∧ ∃ m, wr = w1.drewN m) (fun _ _ i _ => 17 - (intOf i).toNat)
  case atStart => exact ⟨0, by omega, rfl, rfl, rfl, 0, rfl⟩
  case round =>
    obtain ⟨k, hk, rfl, rfl, rfl, m, rfl⟩ := hrel
    by_cases hlt : k < 16
    · have c0 : ∀ n, (w1.drewN n).cell? ⟨a, k, none⟩ = some (.int .u8 (cnt.getD k 0 : Nat)) := fun n => by
        show w1.cell? ⟨a, k, none⟩ = _
        rw [hu.cell, specC_cnt (by omega)]
      have hb1 := wTo_le cnt hc k
      have hb2 := sTo_le cnt hc k
      have hb3 := getD_lt hc (by decide) k
      have hb4 : pw (15 - k) ≤ 32768 := by unfold pw; exact Nat.le_trans (Nat.pow_le_pow_right (by omega) (show 15 - k ≤ 15 by omega)) (by decide)
      have hw : wTo cnt (k + 1) = wTo cnt k + cnt.getD k 0 * pw (15 - k) := rfl
      have hs : sTo cnt (k + 1) = sTo cnt k + cnt.getD k 0 := rfl
      obtain ⟨j, hj⟩ : ∃ j, 15 - k = j := ⟨_, rfl⟩
      rw [hj] at hb4 hw
      have y1 : IntKind.i64.wrap ((k : Int) + 1 - 1) = (k : Int) := by rw [show (k : Int) + 1 - 1 = (k : Int) by omega]; exact IntWalk.i64_in _ (by omega)
      have y2 : IntKind.i64.wrap (16 - ((k : Int) + 1)) = (j : Int) := by rw [show 16 - ((k : Int) + 1) = (j : Int) by omega]; exact IntWalk.i64_in _ (by omega)
      have y2' : 16 - ((k : Int) + 1) = (j : Int) := by omega
      have y0 : (k : Int) + 1 - 1 = (k : Int) := by omega
      have yk : IntKind.i64.wrap (k : Int) = (k : Int) := IntWalk.i64_in _ (by omega)
      have yj : IntKind.i64.wrap (j : Int) = (j : Int) := IntWalk.i64_in _ (by omega)
      have yk0 : 0 ≤ (k : Int) := by omega
      have yk1 : (k : Int) < 16 := by omega
      have HP := Lib.hid (power_any j)
      generalize wTo cnt k = sa at hb1 hw ⊢
      generalize sTo cnt k = sb at hb2 hs ⊢
      generalize cnt.getD k 0 = x at hb3 hw hs c0
      generalize pw j = p at hb4 hw HP
      obtain ⟨xp, hxp⟩ : ∃ xp, x * p = xp := ⟨_, rfl⟩
      have hxp1 : xp ≤ 255 * 32768 := by rw [← hxp]; exact Nat.mul_le_mul (by omega) hb4
      have hxp2 : (x : Int) * (p : Int) = (xp : Int) := by rw [← hxp, Int.natCast_mul]
      rw [hxp] at hw
      have y3 : IntKind.i64.wrap ((x : Int) * (p : Int)) = (xp : Int) := by rw [hxp2]; exact IntWalk.i64_in _ (by omega)
      have y4 : IntKind.i64.wrap ((sa : Int) + (xp : Int)) = (sa : Int) + (xp : Int) := IntWalk.i64_in _ (by omega)
      have y5 : IntKind.i64.wrap (x : Int) = (x : Int) := IntWalk.i64_in _ (by omega)
      have hj16 : j ≤ 16 := by omega
      clear hj
      have HW := Lib.hid hw; clear hw
      have HS := Lib.hid hs; clear hs
      clear hxp hxp2
      go_upto_region 6 with fail
      refine Lex3.wp_region_lex [] (fun u => u.cell? ⟨a, k, none⟩ = some (.int .u8 (x : Int))) (fun u n h => h) (c0 m) (by kernel_rfl) (by kernel_rfl) ?_
      iterate 5 (refine Lex3.run_free (v := ?_) (by rfl) (by rfl) (fun u => ?_) ?_; rotate_left; (go_simp; try with_reducible rfl); simp only [Act.put, zA, zB, zC])
      refine Lex3.run_load (v := ?_) (by rfl) (by rfl) (fun u hu => ?_) ?_; rotate_left; (go_simp; try with_reducible rfl); simp only [Act.put, zA, zB, zC]
      iterate 3 (refine Lex3.run_free (v := ?_) (by rfl) (by rfl) (fun u => ?_) ?_; rotate_left; (go_simp; try with_reducible rfl); simp only [Act.put, zA, zB, zC])
      refine Lex3.run_eff (by rfl) (by rfl) (fun n' K' hK => ?_)
      go_simp
      refine (HP.out _ hj16).mono ?_
      rintro e w' ⟨rfl, rfl⟩
      refine hK _ _ (c0 _) ?_
      clear hK K'
      try simp only [Act.put, zA, zB, zC]
      iterate 3 (refine Lex3.run_free (v := ?_) (by rfl) (by rfl) (fun u => ?_) ?_; rotate_left; (go_simp; try with_reducible rfl); simp only [Act.put, zA, zB, zC])
      refine Lex3.run_nil (fun n3 => ?_)
      try simp only [World.drewN_drewN]
      generalize hG : m + 1 + n' + n3 = M
      clear hG
      have c1 := c0 M
      clear y3 y4
      go_wp2_with fail
      go_roundw
      case rel => exact ⟨k + 1, by omega, by go_num, by rw [HW.out]; go_num, by rw [HS.out]; go_num, _, rfl⟩
      case measure => simp [intOf]; omega
    · obtain rfl : k = 16 := by omega
      go_wp2_with fail
      go_ret2
      exact ⟨rfl, below_drewN hb m⟩
end Go.Proofs.YtjfgfoeenajneaaGreatDoor.Sg
namespace Go.Proofs.YtjfgfoeenajneaaGreatDoor.Sg
open Go.RowKit

def nats (l : List UInt8) : List Nat := l.map (·.toNat)
theorem Bs_append (x y : List UInt8) : Bs x ++ Bs y = Bs (x ++ y) := by apply ByteArray.ext; simp [Bs, ByteArray.data_append]
theorem run_add_Bs (P : Program) (x y : List UInt8) (w : World) (h : x.length + y.length ≤ 9223372036854775807) : (Op.stringOp .add (Bs x) (Bs y)).run P w = .ok (.string (Bs (x ++ y))) w := by
  rw [run_string_add_sum w _ _ (by rw [Bs_size, Bs_size]; exact h), Bs_append]
theorem conv_none (c : Nat) (w : World) : (convert 29 9 (.slice none 0 c)).run Tryz.prog w = .ok (.string (Bs [])) w := by
  rw [run_convert_bytes_string w 29 9 5 _ _ _ Tryz.underlying29 Tryz.underlying5 Tryz.underlying9]
  rfl
theorem conv_row (b o cap : Nat) (l : List UInt8) (w : World) (h : ∀ j, j < l.length → w.cell? ⟨b, o + j, none⟩ = (u8s (nats l))[j]?) : (convert 29 9 (.slice (some ⟨b, o, none⟩) l.length cap)).run Tryz.prog w = .ok (.string (Bs l)) w := by
  have h2 := Go.Lib.run_convert_whole (P := Tryz.prog) w 29 5 9 Tryz.underlying29 Tryz.underlying5 Tryz.underlying9 b o (Bs l) (fun i hi => by
    have hi' : i < l.length := by rw [Bs_size] at hi; exact hi
    rw [h i hi', Bs_get]
    unfold u8s nats
    rw [List.getElem?_map, List.getElem?_map, List.getElem?_eq_getElem hi', List.getD_eq_getElem?_getD, List.getElem?_eq_getElem hi']
    rfl) cap
  rw [Bs_size] at h2
  exact h2
theorem conv_sl (A : Option Addr) (n cap : Nat) (l : List UInt8) (w : World) (h : Sl w A n (u8s (nats l))) (hA : n = 0 → A = none ∨ ∃ b o, A = some ⟨b, o, none⟩) : (convert 29 9 (.slice A n cap)).run Tryz.prog w = .ok (.string (Bs l)) w := by
  have hn : l.length = n := by have := h.1; rw [u8s_length] at this; simpa [nats] using this
  subst hn
  by_cases h0 : l.length = 0
  · obtain rfl : l = [] := List.eq_nil_of_length_eq_zero h0
    rcases hA rfl with rfl | ⟨b, o, rfl⟩
    · exact conv_none _ _
    · exact conv_row b o cap [] w (fun j hj => by simp at hj)
  · obtain ⟨b, o, rfl, hc⟩ := h.2 (by omega)
    exact conv_row b o cap l w hc
/-- a byte of a number -/
def by1 (n : Int) : UInt8 := UInt8.ofNat (n % 256).toNat
set_option maxRecDepth 100000 in
set_option maxHeartbeats 1000000 in
theorem byteOf_any (n : Nat) (w : World) (hn : n ≤ 255) : Calls Tryz.prog 87 #[.int .i64 (n : Int)] w fun e w' => e = .returned (.string (Bs [UInt8.ofNat n])) ∧ Below w.heap.size w w' := by
  have h1 : (n : Int) ≤ 255 := by omega
  go_enter Tryz.func87, Tryz.ntmps87
  have hcv : (convert 29 9 (.slice (some ⟨w.heap.size, 0, none⟩) 1 1)).run Tryz.prog (w.alloc (.cells #[.int .u8 (n : Int)] 5)) = .ok (.string (Bs [UInt8.ofNat n])) _ := conv_row w.heap.size 0 1 [UInt8.ofNat n] (w.alloc (.cells #[.int .u8 (n : Int)] 5)) (fun j hj => by
    obtain rfl : j = 0 := by simpa using hj
    rw [(Blk.new w 5 #[.int .u8 (n : Int)]).cell]
    unfold u8s nats
    simp
    omega)
  have hb : Below w.heap.size w (w.alloc (.cells #[.int .u8 (n : Int)] 5)) := (Below.refl _ _).alloc (Nat.le_refl _) _
  go_wp2_with fail
  go_ret
  exact ⟨rfl, hb⟩
/-- a number of two bytes, written -/
def NumS (n : Int) (s : List UInt8) : Prop := s.length = 2 ∧ (0 ≤ n → n ≤ 65535 → s = num2 n.toNat)
set_option maxRecDepth 100000 in
set_option maxHeartbeats 1000000 in
theorem number_any (n : Int) (w : World) (h1 : -9223372036854775808 ≤ n) (h2 : n ≤ 9223372036854775807) : Calls Tryz.prog 86 #[.int .i64 n] w fun e w' => ∃ s, e = .returned (.string (Bs s)) ∧ NumS n s ∧ Below w.heap.size w w' := by
  go_enter Tryz.func86, Tryz.ntmps86
  obtain ⟨a, ha⟩ : ∃ a : Nat, (n.tdiv 256).tmod 256 % 256 = a := ⟨(n.tdiv 256).tmod 256 % 256 |>.toNat, by omega⟩
  obtain ⟨b, hb⟩ : ∃ b : Nat, n.tmod 256 % 256 = b := ⟨(n.tmod 256 % 256).toNat, by omega⟩
  have hcv : (convert 29 9 (.slice (some ⟨w.heap.size, 0, none⟩) 2 2)).run Tryz.prog (w.alloc (.cells #[.int .u8 (a : Int), .int .u8 (b : Int)] 5)) = .ok (.string (Bs [UInt8.ofNat a, UInt8.ofNat b])) _ := conv_row w.heap.size 0 2 [UInt8.ofNat a, UInt8.ofNat b] _ (fun j hj => by
    rw [(Blk.new w 5 #[.int .u8 (a : Int), .int .u8 (b : Int)]).cell, Nat.zero_add]
    unfold u8s nats
    have : j = 0 ∨ j = 1 := by simp at hj; omega
    rcases this with rfl | rfl <;> simp <;> omega)
  have hbl : Below w.heap.size w (w.alloc (.cells #[.int .u8 (a : Int), .int .u8 (b : Int)] 5)) := (Below.refl _ _).alloc (Nat.le_refl _) _
  go_wp2_with fail
  go_ret
  exact ⟨_, rfl, ⟨rfl, fun h0 _ => by
    rw [Int.tdiv_eq_ediv_of_nonneg h0, Int.tmod_eq_emod_of_nonneg (by omega)] at ha
    rw [Int.tmod_eq_emod_of_nonneg h0] at hb
    unfold num2
    rw [show a = n.toNat / 256 % 256 by omega, show b = n.toNat % 256 by omega]⟩, hbl⟩
end Go.Proofs.YtjfgfoeenajneaaGreatDoor.Sg
namespace Go.Proofs.YtjfgfoeenajneaaGreatDoor.Sg
open Go.RowKit

def CheckP (cnt vals : List Nat) (w : World) (e : Ending) (w' : World) : Prop := ∃ c : Nat, e = .returned (.int .i64 (c : Int)) ∧ (c = 0 ↔ huffOk cnt vals = true) ∧ Below w.heap.size w w'
theorem huffOk_iff (c v : List Nat) : huffOk c v = true ↔ sumM c ≠ 0 ∧ sumM c ≤ 256 ∧ sumM c = v.length ∧ weightM c ≤ 65535 ∧ v.Nodup := by
  unfold huffOk
  simp only [Bool.and_eq_true, decide_eq_true_eq, and_assoc]
theorem take_nodup {v : List Nat} {k : Nat} (h : k < v.length) : (v.take (k + 1)).Nodup ↔ (v.take k).Nodup ∧ v.getD k 0 ∉ v.take k := by
  rw [List.take_succ_eq_append_getElem h, List.nodup_append, List.getD_eq_getElem?_getD, List.getElem?_eq_getElem h]
  simp
  intro _
  constructor
  · intro h1 h2
    exact h1 _ h2 rfl
  · intro h1 a ha e
    exact h1 (e ▸ ha)
theorem mem_take_next {v : List Nat} {k x : Nat} (h : k < v.length) : x ∈ v.take (k + 1) ↔ x ∈ v.take k ∨ x = v.getD k 0 := by
  rw [List.take_succ_eq_append_getElem h, List.mem_append, List.mem_singleton, List.getD_eq_getElem?_getD, List.getElem?_eq_getElem h]
  rfl
theorem twice_not {v : List Nat} {i j : Nat} (hj : j < i) (hi : i < v.length) (h : v.getD j 0 = v.getD i 0) : ¬ v.Nodup := by
  intro hn
  rw [List.getD_eq_getElem?_getD, List.getD_eq_getElem?_getD, List.getElem?_eq_getElem hi, List.getElem?_eq_getElem (by omega)] at h
  exact List.pairwise_iff_getElem.1 hn j i (by omega) hi hj (by simpa using h)
set_option maxRecDepth 100000 in
set_option maxHeartbeats 8000000 in
theorem check04_any (cnt vals : List Nat) (A : Option Addr) (n cap : Nat) (w : World) (hl : cnt.length = 16) (hc : ∀ x ∈ cnt, x < 256) (hs : Sl w A n (u8s vals)) (_hv : ∀ x ∈ vals, x < 256) (hn : n ≤ 1152921504606846976) :
    Calls Tryz.prog 98 #[.agg (specC cnt (.slice A n cap)).toArray] w (CheckP cnt vals w) := by
  have hvl : vals.length = n := by have := hs.1; rw [u8s_length] at this; exact this
  have hu : Blk (w.alloc (.cells (specC cnt (.slice A n cap)).toArray 85)) w.heap.size 85 (specC cnt (.slice A n cap)).toArray := Blk.new w _ _
  have hb : Below w.heap.size w (w.alloc (.cells (specC cnt (.slice A n cap)).toArray 85)) := (Below.refl _ _).alloc (Nat.le_refl _) _
  have hs1 := hs.below hb
  have hsz : (Tryz.prog.info? 85).map (·.size) = some (specC cnt (.slice A n cap)).toArray.size := by
    rw [List.size_toArray]
    unfold specC
    rw [List.length_append, u8s_length, hl]
    kernel_rfl
  have HSZ := Lib.hid hsz; clear hsz
  have c16 : (w.alloc (.cells (specC cnt (.slice A n cap)).toArray 85)).cell? ⟨w.heap.size, 16, none⟩ = some (.slice A n cap) := by rw [hu.cell, specC_val hl]
  have HVL := Lib.hid hvl; clear hvl
  have HL := Lib.hid hl
  go_enter Tryz.func98, Tryz.ntmps98
  go_upto_region 1 with fail
  generalize (w.alloc (.cells (specC cnt (.slice A n cap)).toArray 85)) = w1 at hu hb hs1 c16 ⊢
  generalize hag : w.heap.size = a at hu c16 ⊢
  have HAG := Lib.hid hag; clear hag hl
  go_wp2_with (refine wpList_load_row rfl _ _ rfl a rfl _ _ _ _ hu Tryz.underlying85 rfl HSZ.out ?_)
  refine (weight04_any cnt _ w1 HL.out hc).mono ?_
  rintro e w2 ⟨rfl, hb2⟩
  have hb' := below_then hb hb2
  have c2 := below_cell hb2 c16
  have hs2 := hs1.below hb2
  obtain ⟨S, hS⟩ : ∃ S, sumM cnt = S := ⟨_, rfl⟩
  obtain ⟨K, hK⟩ : ∃ K, weightM cnt = K := ⟨_, rfl⟩
  have hok := huffOk_iff cnt vals
  rw [hS, hK, HVL.out] at hok
  have hSb : S ≤ 255 * 16 := by rw [← hS]; exact sTo_le cnt hc 16
  have hKb : K ≤ 255 * 32768 * 16 := by rw [← hK]; exact wTo_le cnt hc 16
  rw [hS, hK]
  clear hS hK
  have HOK := Lib.hid hok; clear hok
  clear c16 hs1 hu hb hb2
  by_cases h0 : S = 0
  · subst h0
    rw [show ((0 : Nat) : Int) = 0 from rfl]
    go_wp2_with fail
    go_ret
    exact ⟨40, rfl, by rw [HOK.out]; omega, hb'⟩
  have h0b : ((S : Int) == 0) = false := beq_false_of_ne (by omega)
  by_cases h1 : 256 < S
  · go_wp2_with fail
    go_ret
    exact ⟨40, rfl, by rw [HOK.out]; omega, hb'⟩
  have h1b : decide (256 < (S : Int)) = false := decide_eq_false (by omega)
  by_cases h2 : S = n
  · subst h2
    clear h1 h0
    have h2b : ((S : Int) != (S : Int)) = false := by simp
    by_cases h3 : 65535 < K
    · go_wp2_with fail
      go_ret
      exact ⟨41, rfl, by rw [HOK.out]; omega, hb'⟩
    obtain ⟨b, o, rfl, hcell⟩ := hs2.2 (by have := beq_eq_false_iff_ne.1 h0b; omega)
    have hv2 : ∀ m j, j < S → (w2.drewN m).cell? ⟨b, o + j, none⟩ = some (.int .u8 (vals.getD j 0 : Nat)) := fun m j hj => by
      show w2.cell? _ = _
      rw [hcell j hj, u8s_get (by rw [HVL.out]; exact hj)]
    have HV2 := Lib.hid hv2; clear hv2 hcell hs2
    go_wp2_with fail
    go_loopw [5] (fun i wr => ∃ (k : Nat), k ≤ S ∧ i = .int .i64 k ∧ (vals.take k).Nodup ∧ ∃ m, wr = w2.drewN m) (fun i _ => S - (intOf i).toNat)
    case atStart => exact ⟨0, by omega, rfl, by simp, 0, rfl⟩
    case round =>
      obtain ⟨k, hk, rfl, hnd, m, rfl⟩ := hrel
      have HND := Lib.hid hnd; clear hnd
      by_cases hlt : k < S
      · go_wp2_with fail
        go_loopw [6] (fun j wr => ∃ (q : Nat), q ≤ k ∧ j = .int .i64 q ∧ vals.getD k 0 ∉ vals.take q ∧ ∃ m, wr = w2.drewN m) (fun j _ => k - (intOf j).toNat)
        case atStart => exact ⟨0, by omega, rfl, by simp, m, rfl⟩
        case round =>
          obtain ⟨q, hq, rfl, hmem, m, rfl⟩ := hrel
          have HMEM := Lib.hid hmem; clear hmem
          by_cases hqk : q < k
          · have d1 := HV2.out m q (by omega)
            have d2 := HV2.out m k hlt
            have c2' : (w2.drewN m).cell? ⟨a, 16, none⟩ = some (.slice (some ⟨b, o, none⟩) S cap) := c2
            obtain ⟨x, hx⟩ : ∃ x, vals.getD q 0 = x := ⟨_, rfl⟩
            obtain ⟨y, hy⟩ : ∃ y, vals.getD k 0 = y := ⟨_, rfl⟩
            rw [hx] at d1
            rw [hy] at d2
            have HX := Lib.hid (And.intro hx hy); clear hx hy
            have z1 : 0 ≤ (q : Int) := by omega
            have z2 : (q : Int) < (S : Int) := by omega
            have z3 : 0 ≤ (k : Int) := by omega
            have z4 : (k : Int) < (S : Int) := by omega
            go_upto_region 12 with fail
            refine Lex3.wp_region_lex [] (fun u => u.cell? ⟨a, 16, none⟩ = some (.slice (some ⟨b, o, none⟩) S cap) ∧ u.cell? ⟨b, o + q, none⟩ = some (.int .u8 (x : Int)) ∧ u.cell? ⟨b, o + k, none⟩ = some (.int .u8 (y : Int))) (fun u n h => h) ⟨c2', d1, d2⟩ (by kernel_rfl) (by kernel_rfl) ?_
            refine Lex3.run_free (v := ?_) (by rfl) (by rfl) (fun u => ?_) ?_; rotate_left; (go_simp; try with_reducible rfl); simp only [Act.put, zA, zB, zC]
            refine Lex3.run_load (v := ?_) (by rfl) (by rfl) (fun u hu => ?_) ?_; rotate_left; (obtain ⟨hu0, hu1, hu2⟩ := hu; go_simp; try with_reducible rfl); simp only [Act.put, zA, zB, zC]
            iterate 2 (refine Lex3.run_free (v := ?_) (by rfl) (by rfl) (fun u => ?_) ?_; rotate_left; (go_simp; try with_reducible rfl); simp only [Act.put, zA, zB, zC])
            refine Lex3.run_load (v := ?_) (by rfl) (by rfl) (fun u hu => ?_) ?_; rotate_left; (obtain ⟨hu0, hu1, hu2⟩ := hu; go_simp; try with_reducible rfl); simp only [Act.put, zA, zB, zC]
            refine Lex3.run_free (v := ?_) (by rfl) (by rfl) (fun u => ?_) ?_; rotate_left; (go_simp; try with_reducible rfl); simp only [Act.put, zA, zB, zC]
            refine Lex3.run_load (v := ?_) (by rfl) (by rfl) (fun u hu => ?_) ?_; rotate_left; (obtain ⟨hu0, hu1, hu2⟩ := hu; go_simp; try with_reducible rfl); simp only [Act.put, zA, zB, zC]
            iterate 2 (refine Lex3.run_free (v := ?_) (by rfl) (by rfl) (fun u => ?_) ?_; rotate_left; (go_simp; try with_reducible rfl); simp only [Act.put, zA, zB, zC])
            refine Lex3.run_load (v := ?_) (by rfl) (by rfl) (fun u hu => ?_) ?_; rotate_left; (obtain ⟨hu0, hu1, hu2⟩ := hu; go_simp; try with_reducible rfl); simp only [Act.put, zA, zB, zC]
            refine Lex3.run_free (v := ?_) (by rfl) (by rfl) (fun u => ?_) ?_; rotate_left; (go_simp; try with_reducible rfl); simp only [Act.put, zA, zB, zC]
            refine Lex3.run_nil (fun n3 => ?_)
            have eG : ((w2.drewN m).drew.drewN n3) = w2.drewN (m + 1 + n3) := by simp
            rw [eG]
            clear eG
            generalize hG : m + 1 + n3 = M
            clear hG
            by_cases hxy : x = y
            · subst hxy
              go_wp2_with fail
              go_ret
              refine ⟨42, rfl, ?_, below_drewN hb' _⟩
              rw [HOK.out]
              have := twice_not hqk (by rw [HVL.out]; exact hlt) (HX.out.1.trans HX.out.2.symm)
              constructor
              · intro h; omega
              · intro h; exact absurd h.2.2.2.2 this
            · have hb1 : ((x : Int) == (y : Int)) = false := beq_false_of_ne (by omega)
              have hb2 : (x == y) = false := beq_false_of_ne hxy
              go_wp2_with fail
              go_roundw
              case rel =>
                refine ⟨q + 1, by omega, by go_num, ?_, M, rfl⟩
                rw [mem_take_next (by rw [HVL.out]; omega)]
                rintro (h | h)
                · exact HMEM.out h
                · rw [HX.out.1, HX.out.2] at h
                  exact hxy h.symm
              case measure => simp [intOf]; omega
          · obtain rfl : q = k := by omega
            go_wp2_with fail
            go_roundw
            case rel => exact ⟨q + 1, by omega, by go_num, (take_nodup (by rw [HVL.out]; exact hlt)).2 ⟨HND.out, HMEM.out⟩, m, rfl⟩
            case measure => simp [intOf]; omega
      · obtain rfl : k = S := by omega
        go_wp2_with fail
        go_ret
        refine ⟨0, rfl, ?_, below_drewN hb' _⟩
        rw [HOK.out]
        have h4 := HND.out
        rw [List.take_of_length_le (by rw [HVL.out]; exact Nat.le_refl _)] at h4
        have := beq_eq_false_iff_ne.1 h0b
        have := of_decide_eq_false h1b
        exact ⟨fun _ => ⟨by omega, by omega, by first | rfl | trivial, by omega, h4⟩, fun _ => by first | rfl | trivial⟩
  · have h2b : ((S : Int) != (n : Int)) = true := by simp; omega
    have h2c : ¬ (S : Int) = (n : Int) := by omega
    have h2d : (S != n) = true := by simpa using h2
    go_wp2_with fail
    go_ret
    exact ⟨40, rfl, by rw [HOK.out]; omega, hb'⟩
end Go.Proofs.YtjfgfoeenajneaaGreatDoor.Sg
namespace Go.Proofs.YtjfgfoeenajneaaGreatDoor.Sg
open Go.RowKit

/-- an element of an array by value -/
theorem run_index_plain {P : Program} {t e : TypeId} {n : Nat} {cs : Array Value} {k : Nat} {v : Value} (h : P.underlying t = some (.array n e)) (hp : P.plainKey e = true) (_hs : P.cellsOf e = 1) (hi : (P.info? e).map (·.size) = some 1) (hk : k < n) (hv : cs[k]? = some v) (w : World) :
    (Instr.index t (.agg cs) (.int .i64 (k : Int))).run P w = .ok v w := by
  have hz : (sizeOf e).run P w = .ok 1 w := by
    cases hq : P.info? e with
    | none => simp [hq] at hi
    | some i => simp [hq] at hi; simp [sizeOf, typeInfo, hq, hi]
  have h1 : (asIntOf (.int .i64 (k : Int))).run P w = .ok (.i64, (k : Int)) w := rfl
  have hc : (0 : Int) ≤ (k : Int) ∧ (k : Int) < (n : Int) := ⟨by omega, by omega⟩
  unfold Instr.index
  simp only [Sem.run_bind, h1, Result.andThen_ok, run_underlying h, if_pos hc, hz]
  exact run_part_plain w hp (by simpa using hv)
theorem plain8 : Tryz.prog.plainKey 5 = true := by kernel_rfl
theorem plain16 : Tryz.prog.plainKey 78 = true := by kernel_rfl
theorem cell8 : Tryz.prog.cellsOf 5 = 1 := by kernel_rfl
theorem cell16 : Tryz.prog.cellsOf 78 = 1 := by kernel_rfl
theorem inf8 : (Tryz.prog.info? 5).map (·.size) = some 1 := by kernel_rfl
theorem inf16 : (Tryz.prog.info? 78).map (·.size) = some 1 := by kernel_rfl
theorem specC_range (cnt : List Nat) (v : Value) : ((specC cnt v).toArray.toList.drop 0).take (u8s cnt).length = u8s cnt := by
  unfold specC
  simp
theorem size16 : (Tryz.prog.info? 83).map (·.size) = some 16 := by kernel_rfl
set_option maxRecDepth 100000 in
set_option maxHeartbeats 4000000 in
theorem weight_any (cnt : List Nat) (v : Value) (w : World) (hl : cnt.length = 16) (hc : ∀ x ∈ cnt, x < 256) :
    Calls Tryz.prog 115 #[.agg (specC cnt v).toArray] w fun e w' => e = .returned (.tuple #[.int .i64 (weightM cnt : Nat), .int .i64 (sumM cnt : Nat)]) ∧ Below w.heap.size w w' := by
  have hu : Blk (w.alloc (.cells (specC cnt v).toArray 85)) w.heap.size 85 (specC cnt v).toArray := Blk.new w _ _
  have hb : Below w.heap.size w (w.alloc (.cells (specC cnt v).toArray 85)) := (Below.refl _ _).alloc (Nat.le_refl _) _
  have HRG := Lib.hid (Blk.range hu 0 _ (specC_range cnt v))
  have hs16 : (Tryz.prog.info? 83).map (·.size) = some (u8s cnt).length := by rw [u8s_length, hl]; exact size16
  have HS16 := Lib.hid hs16; clear hs16
  go_enter Tryz.func115, Tryz.ntmps115
  go_wp2_with (refine wpList_load_mid rfl _ _ rfl w.heap.size 0 rfl _ _ HRG.out Tryz.underlying83 rfl HS16.out ?_)
  generalize (w.alloc (.cells (specC cnt v).toArray 85)) = w1 at hu hb ⊢
  have hsz : (u8s cnt).toArray.size = 16 := by rw [List.size_toArray, u8s_length, hl]
  go_loop [4, 5, 10] (fun s n i => ∃ k : Nat, k ≤ 16 ∧ i = .int .i64 k ∧ s = .int .i64 (wTo cnt k : Nat) ∧ n = .int .i64 (sTo cnt k : Nat)) (fun _ _ i => 16 - (intOf i).toNat)
  case atStart => exact ⟨0, by omega, rfl, rfl, rfl⟩
  case round =>
    obtain ⟨k, hk, rfl, rfl, rfl⟩ := hrel
    by_cases hlt : k < 16
    · have hget : (u8s cnt).toArray[k]? = some (.int .u8 (cnt.getD k 0 : Nat)) := by rw [List.getElem?_toArray, u8s_get (by omega)]
      have hb1 := wTo_le cnt hc k
      have hb2 := sTo_le cnt hc k
      have hb3 := getD_lt hc (by decide) k
      have hw : wTo cnt (k + 1) = wTo cnt k + cnt.getD k 0 * 2 ^ (15 - k) := rfl
      have hs : sTo cnt (k + 1) = sTo cnt k + cnt.getD k 0 := rfl
      generalize wTo cnt k = sa at hb1 hw ⊢
      generalize sTo cnt k = sb at hb2 hs ⊢
      generalize cnt.getD k 0 = x at hb3 hw hs hget
      have HW := Lib.hid hw; clear hw
      have HS := Lib.hid hs; clear hs
      have hidx : ∀ u, (Instr.index 83 (.agg (u8s cnt).toArray) (.int .i64 (k : Int))).run Tryz.prog u = .ok (.int .u8 (x : Int)) u := fun u => run_index_plain Tryz.underlying83 plain8 cell8 inf8 hlt hget u
      clear hget
      have hx1 : (x : Int) ≤ 255 := by omega
      have h16 : k = 0 ∨ k = 1 ∨ k = 2 ∨ k = 3 ∨ k = 4 ∨ k = 5 ∨ k = 6 ∨ k = 7 ∨ k = 8 ∨ k = 9 ∨ k = 10 ∨ k = 11 ∨ k = 12 ∨ k = 13 ∨ k = 14 ∨ k = 15 := by omega
      clear hb3
      go_upto_region 5 with fail
      clear hidx
      rcases h16 with rfl | rfl | rfl | rfl | rfl | rfl | rfl | rfl | rfl | rfl | rfl | rfl | rfl | rfl | rfl | rfl
      · go_wp2_with fail
        go_round
        case rel => exact ⟨1, by omega, rfl, (by rw [show wTo cnt 1 = _ from HW.out]; congr 1 <;> omega), (by rw [show sTo cnt 1 = _ from HS.out]; congr 1)⟩
        case measure => simp [intOf]
      · go_wp2_with fail
        go_round
        case rel => exact ⟨2, by omega, rfl, (by rw [show wTo cnt 2 = _ from HW.out]; congr 1 <;> omega), (by rw [show sTo cnt 2 = _ from HS.out]; congr 1)⟩
        case measure => simp [intOf]
      · go_wp2_with fail
        go_round
        case rel => exact ⟨3, by omega, rfl, (by rw [show wTo cnt 3 = _ from HW.out]; congr 1 <;> omega), (by rw [show sTo cnt 3 = _ from HS.out]; congr 1)⟩
        case measure => simp [intOf]
      · go_wp2_with fail
        go_round
        case rel => exact ⟨4, by omega, rfl, (by rw [show wTo cnt 4 = _ from HW.out]; congr 1 <;> omega), (by rw [show sTo cnt 4 = _ from HS.out]; congr 1)⟩
        case measure => simp [intOf]
      · go_wp2_with fail
        go_round
        case rel => exact ⟨5, by omega, rfl, (by rw [show wTo cnt 5 = _ from HW.out]; congr 1 <;> omega), (by rw [show sTo cnt 5 = _ from HS.out]; congr 1)⟩
        case measure => simp [intOf]
      · go_wp2_with fail
        go_round
        case rel => exact ⟨6, by omega, rfl, (by rw [show wTo cnt 6 = _ from HW.out]; congr 1 <;> omega), (by rw [show sTo cnt 6 = _ from HS.out]; congr 1)⟩
        case measure => simp [intOf]
      · go_wp2_with fail
        go_round
        case rel => exact ⟨7, by omega, rfl, (by rw [show wTo cnt 7 = _ from HW.out]; congr 1 <;> omega), (by rw [show sTo cnt 7 = _ from HS.out]; congr 1)⟩
        case measure => simp [intOf]
      · go_wp2_with fail
        go_round
        case rel => exact ⟨8, by omega, rfl, (by rw [show wTo cnt 8 = _ from HW.out]; congr 1 <;> omega), (by rw [show sTo cnt 8 = _ from HS.out]; congr 1)⟩
        case measure => simp [intOf]
      · go_wp2_with fail
        go_round
        case rel => exact ⟨9, by omega, rfl, (by rw [show wTo cnt 9 = _ from HW.out]; congr 1 <;> omega), (by rw [show sTo cnt 9 = _ from HS.out]; congr 1)⟩
        case measure => simp [intOf]
      · go_wp2_with fail
        go_round
        case rel => exact ⟨10, by omega, rfl, (by rw [show wTo cnt 10 = _ from HW.out]; congr 1 <;> omega), (by rw [show sTo cnt 10 = _ from HS.out]; congr 1)⟩
        case measure => simp [intOf]
      · go_wp2_with fail
        go_round
        case rel => exact ⟨11, by omega, rfl, (by rw [show wTo cnt 11 = _ from HW.out]; congr 1 <;> omega), (by rw [show sTo cnt 11 = _ from HS.out]; congr 1)⟩
        case measure => simp [intOf]
      · go_wp2_with fail
        go_round
        case rel => exact ⟨12, by omega, rfl, (by rw [show wTo cnt 12 = _ from HW.out]; congr 1 <;> omega), (by rw [show sTo cnt 12 = _ from HS.out]; congr 1)⟩
        case measure => simp [intOf]
      · go_wp2_with fail
        go_round
        case rel => exact ⟨13, by omega, rfl, (by rw [show wTo cnt 13 = _ from HW.out]; congr 1 <;> omega), (by rw [show sTo cnt 13 = _ from HS.out]; congr 1)⟩
        case measure => simp [intOf]
      · go_wp2_with fail
        go_round
        case rel => exact ⟨14, by omega, rfl, (by rw [show wTo cnt 14 = _ from HW.out]; congr 1 <;> omega), (by rw [show sTo cnt 14 = _ from HS.out]; congr 1)⟩
        case measure => simp [intOf]
      · go_wp2_with fail
        go_round
        case rel => exact ⟨15, by omega, rfl, (by rw [show wTo cnt 15 = _ from HW.out]; congr 1 <;> omega), (by rw [show sTo cnt 15 = _ from HS.out]; congr 1)⟩
        case measure => simp [intOf]
      · go_wp2_with fail
        go_round
        case rel => exact ⟨16, by omega, rfl, (by rw [show wTo cnt 16 = _ from HW.out]; congr 1 <;> omega), (by rw [show sTo cnt 16 = _ from HS.out]; congr 1)⟩
        case measure => simp [intOf]
    · obtain rfl : k = 16 := by omega
      go_wp2_with fail
      go_ret2
      exact ⟨rfl, hb⟩

/-- which values have been seen: k of them -/
def seenC (v : List Nat) (k : Nat) : Array Value := ((List.range 256).map fun x => Value.bool (decide (x ∈ v.take k))).toArray
theorem seenC_get (v : List Nat) (k x : Nat) (h : x < 256) : (seenC v k)[x]? = some (.bool (decide (x ∈ v.take k))) := by
  unfold seenC
  rw [List.getElem?_toArray, List.getElem?_map, List.getElem?_range h]
  rfl
theorem seenC_next (v : List Nat) (k : Nat) (h : k < v.length) (hx : v.getD k 0 < 256) : (seenC v k).setIfInBounds (v.getD k 0) (.bool true) = seenC v (k + 1) := by
  unfold seenC
  rw [List.setIfInBounds_toArray]
  congr 1
  apply List.ext_getElem?
  intro i
  rw [List.getElem?_set, List.getElem?_map, List.getElem?_map]
  by_cases hi : i < 256
  · rw [List.getElem?_range hi]
    simp only [Option.map_some, mem_take_next h, List.length_map, List.length_range]
    by_cases he : v.getD k 0 = i
    · rw [if_pos he, if_pos hx]
      have : decide (i ∈ v.take k ∨ i = v.getD k 0) = true := decide_eq_true (.inr he.symm)
      rw [this]
    · rw [if_neg he]
      have : decide (i ∈ v.take k ∨ i = v.getD k 0) = decide (i ∈ v.take k) := decide_eq_decide.2 ⟨fun h => h.resolve_right (Ne.symm he), .inl⟩
      rw [this]
  · rw [List.getElem?_eq_none (by simp; omega), if_neg (by omega)]
    rfl
theorem seenC_none : Tryz.zeroCells198 = seenC [] 0 := by kernel_rfl
theorem seenC_zero (v : List Nat) : Tryz.zeroCells198 = seenC v 0 := by
  have h : seenC v 0 = seenC [] 0 := by unfold seenC; simp
  exact seenC_none.trans h.symm
set_option maxRecDepth 100000 in
set_option maxHeartbeats 8000000 in
theorem check_any (cnt vals : List Nat) (A : Option Addr) (n cap : Nat) (w : World) (hl : cnt.length = 16) (hc : ∀ x ∈ cnt, x < 256) (hs : Sl w A n (u8s vals)) (hv : ∀ x ∈ vals, x < 256) (hn : n ≤ 1152921504606846976) :
    Calls Tryz.prog 94 #[.agg (specC cnt (.slice A n cap)).toArray] w (CheckP cnt vals w) := by
  have hvl : vals.length = n := by have := hs.1; rw [u8s_length] at this; exact this
  have hu : Blk (w.alloc (.cells (specC cnt (.slice A n cap)).toArray 85)) w.heap.size 85 (specC cnt (.slice A n cap)).toArray := Blk.new w _ _
  have hb : Below w.heap.size w (w.alloc (.cells (specC cnt (.slice A n cap)).toArray 85)) := (Below.refl _ _).alloc (Nat.le_refl _) _
  have hs1 := hs.below hb
  have hsz : (Tryz.prog.info? 85).map (·.size) = some (specC cnt (.slice A n cap)).toArray.size := by
    rw [List.size_toArray]
    unfold specC
    rw [List.length_append, u8s_length, hl]
    kernel_rfl
  have HSZ := Lib.hid hsz; clear hsz
  have c16 : (w.alloc (.cells (specC cnt (.slice A n cap)).toArray 85)).cell? ⟨w.heap.size, 16, none⟩ = some (.slice A n cap) := by rw [hu.cell, specC_val hl]
  have HVL := Lib.hid hvl; clear hvl
  have HL := Lib.hid hl
  go_enter Tryz.func94, Tryz.ntmps94
  go_upto_region 1 with fail
  generalize (w.alloc (.cells (specC cnt (.slice A n cap)).toArray 85)) = w1 at hu hb hs1 c16 ⊢
  generalize hag : w.heap.size = a at hu c16 ⊢
  have HAG := Lib.hid hag; clear hag hl
  go_wp2_with (refine wpList_load_row rfl _ _ rfl a rfl _ _ _ _ hu Tryz.underlying85 rfl HSZ.out ?_)
  refine (weight_any cnt _ w1 HL.out hc).mono ?_
  rintro e w2 ⟨rfl, hb2⟩
  have hb' := below_then hb hb2
  have c2 := below_cell hb2 c16
  have hs2 := hs1.below hb2
  obtain ⟨S, hS⟩ : ∃ S, sumM cnt = S := ⟨_, rfl⟩
  obtain ⟨K, hK⟩ : ∃ K, weightM cnt = K := ⟨_, rfl⟩
  have hok := huffOk_iff cnt vals
  rw [hS, hK, HVL.out] at hok
  have hSb : S ≤ 255 * 16 := by rw [← hS]; exact sTo_le cnt hc 16
  have hKb : K ≤ 255 * 32768 * 16 := by rw [← hK]; exact wTo_le cnt hc 16
  rw [hS, hK]
  clear hS hK
  have HOK := Lib.hid hok; clear hok
  clear c16 hs1 hu hb hb2
  by_cases h0 : S = 0
  · subst h0
    rw [show ((0 : Nat) : Int) = 0 from rfl]
    go_wp2_with fail
    go_ret
    exact ⟨40, rfl, by rw [HOK.out]; omega, hb'⟩
  have h0b : ((S : Int) == 0) = false := beq_false_of_ne (by omega)
  by_cases h1 : 256 < S
  · go_wp2_with fail
    go_ret
    exact ⟨40, rfl, by rw [HOK.out]; omega, hb'⟩
  have h1b : decide (256 < (S : Int)) = false := decide_eq_false (by omega)
  by_cases h2 : S = n
  · subst h2
    clear h1 h0
    have h2b : ((S : Int) != (S : Int)) = false := by simp
    by_cases h3 : 65535 < K
    · go_wp2_with fail
      go_ret
      exact ⟨41, rfl, by rw [HOK.out]; omega, hb'⟩
    obtain ⟨b, o, rfl, hcell⟩ := hs2.2 (by have := beq_eq_false_iff_ne.1 h0b; omega)
    have hv2 : ∀ u, Below w2.heap.size w2 u → ∀ j, j < S → u.cell? ⟨b, o + j, none⟩ = some (.int .u8 (vals.getD j 0 : Nat)) := fun u hbu j hj => by
      have h9 := hcell j hj
      rw [u8s_get (by rw [HVL.out]; exact hj)] at h9
      exact below_cell hbu h9
    have HV2 := Lib.hid hv2; clear hv2 hcell hs2
    go_upto_region 7 with fail
    have hsn : Blk (w2.alloc (.cells Tryz.zeroCells198 198)) w2.heap.size 198 (seenC vals 0) := by rw [← seenC_zero vals]; exact Blk.new w2 _ _
    have hbn : Below w2.heap.size w2 (w2.alloc (.cells Tryz.zeroCells198 198)) := (Below.refl _ _).alloc (Nat.le_refl _) _
    generalize (w2.alloc (.cells Tryz.zeroCells198 198)) = w3 at hsn hbn ⊢
    have c3 := below_cell hbn c2
    have hqle : w2.heap.size ≤ w2.heap.size := Nat.le_refl _
    generalize hqq : w2.heap.size = q at hsn ⊢
    have hqw : w2.heap.size ≤ q := by omega
    have HQQ := Lib.hid hqq; clear hqq
    go_wp2_with fail
    clear c3 c2
    go_loopw [31] (fun i wr => ∃ (k : Nat), k ≤ S ∧ i = .int .i64 k ∧ (vals.take k).Nodup ∧ Blk wr q 198 (seenC vals k) ∧ Below w2.heap.size w2 wr) (fun i _ => S - (intOf i).toNat)
    case atStart => exact ⟨0, by omega, rfl, by simp, hsn, hbn⟩
    clear hsn hbn
    case round =>
      obtain ⟨k, hk, rfl, hnd, hsn, hbn⟩ := hrel
      have HND := Lib.hid hnd; clear hnd
      by_cases hlt : k < S
      · have d1 := HV2.out wr hbn k hlt
        have hx := getD_lt hv (by decide) k
        have hg := seenC_get vals k _ hx
        have hnx := seenC_next vals k (by rw [HVL.out]; exact hlt) hx
        have hnd := take_nodup (v := vals) (k := k) (by rw [HVL.out]; exact hlt)
        by_cases hm : vals.getD k 0 ∈ vals.take k
        · rw [decide_eq_true hm] at hg
          have hnot : ¬ vals.Nodup := fun h => (hnd.1 (h.sublist (List.take_sublist _ _))).2 hm
          have HN := Lib.hid hnot; clear hnot hnd hm hnx
          generalize vals.getD k 0 = x at d1 hx hg
          have d2 : wr.cell? ⟨q, x, none⟩ = some (.bool true) := by rw [hsn.cell, hg]
          clear hg
          go_wp2_with fail
          go_ret
          refine ⟨42, rfl, ?_, below_then hb' hbn⟩
          rw [HOK.out]
          constructor
          · intro h; omega
          · intro h; exact absurd h.2.2.2.2 HN.out
        · rw [decide_eq_false hm] at hg
          have hnd' := hnd.2 ⟨HND.out, hm⟩
          have HN := Lib.hid hnd'; clear hnd' hnd hm
          generalize vals.getD k 0 = x at d1 hx hg hnx
          have d2 : wr.cell? ⟨q, x, none⟩ = some (.bool false) := by rw [hsn.cell, hg]
          have f2 : wr.frozen? ⟨q, x, none⟩ = false := hsn.frozen x
          have HX := Lib.hid hnx; clear hnx hg
          go_wp2_with fail
          go_roundw
          case rel => exact ⟨k + 1, by omega, by go_num, HN.out, by rw [← HX.out]; exact hsn.set x _, hbn.setCell hqw _⟩
          case measure => simp [intOf]; omega
      · obtain rfl : k = S := by omega
        go_wp2_with fail
        go_ret
        refine ⟨0, rfl, ?_, below_then hb' hbn⟩
        rw [HOK.out]
        have h4 := HND.out
        rw [List.take_of_length_le (by rw [HVL.out]; exact Nat.le_refl _)] at h4
        have := beq_eq_false_iff_ne.1 h0b
        have := of_decide_eq_false h1b
        exact ⟨fun _ => ⟨by omega, by omega, by first | rfl | trivial, by omega, h4⟩, fun _ => by first | rfl | trivial⟩
  · have h2b : ((S : Int) != (n : Int)) = true := by simp; omega
    have h2c : ¬ (S : Int) = (n : Int) := by omega
    have h2d : (S != n) = true := by simpa using h2
    go_wp2_with fail
    go_ret
    exact ⟨40, rfl, by rw [HOK.out]; omega, hb'⟩
end Go.Proofs.YtjfgfoeenajneaaGreatDoor.Sg
