/- Words for memory: a block that is known whole; a slice whose elements are one cell each and read as a list. Strings as lists of bytes; bytes taken from ahead. Tables of steps: is one 0, is one above 255. What the walks of segments share: rows kept, worlds that grow, a slice of one struct. -/
import Derived.WalkKit
import Derived.WalkSpells
import Derived.WalkLawsBesides
import Derived.Deep.QuietTactic
import Derived.BigQuiet
import Derived.Lib.Hide
import Derived.Deep.Draws
import Derived.Deep.AppendLies
import Derived.RegionCalls
import Derived.Deep.RegionWith
import Derived.Deep.RegionHeld3
import Derived.Deep.DeepFit
import Derived.Deep.DeepCutAuto
import Derived.Laws.CopyOwn
import Derived.Laws.AppendOwnNone
import Derived.StillTailTactics
import Derived.Test.YtjfgfoeenajneaaGreatDoorGA1
import Derived.Test.YtjfgfoeenajneaaGreatDoorProg
import Derived.IntWalk
import Derived.Deep.WholeRow
import Derived.Deep.MidRow
import Derived.Laws.Rows
import Derived.Laws.Tables
import Derived.Great.FillDense
import Derived.Great.BuildSlice
namespace Go.Proofs.YtjfgfoeenajneaaGreatDoor
theorem zA {α : Type} (l : List α) (i : Nat) (a : α) : l.toArray.setIfInBounds i a = (l.set i a).toArray := List.setIfInBounds_toArray l i a
theorem zB {α : Type} {x : α} {xs : List α} {a : α} : (x :: xs).set 0 a = a :: xs := List.set_cons_zero
theorem zC {α : Type} {x : α} {xs : List α} {n : Nat} {a : α} : (x :: xs).set (n + 1) a = x :: xs.set n a := List.set_cons_succ
end Go.Proofs.YtjfgfoeenajneaaGreatDoor
namespace Go.Proofs.YtjfgfoeenajneaaGreatDoor
open Go.RowKit

/-- block g holds the cells cs, of type t, none of them frozen -/
def Blk (w : World) (g : Nat) (t : TypeId) (cs : Array Value) : Prop := w.heap[g]? = some (.cells cs t (0, 0))

section
variable {w w' : World} {g : Nat} {t : TypeId} {cs : Array Value}
theorem Blk.lt (h : Blk w g t cs) : g < w.heap.size := (Array.getElem?_eq_some_iff.1 h).1
theorem Blk.cell (h : Blk w g t cs) (i : Nat) : w.cell? ⟨g, i, none⟩ = cs[i]? := cell_of_row w g i cs t (0, 0) h
theorem Blk.frozen (h : Blk w g t cs) (i : Nat) : w.frozen? ⟨g, i, none⟩ = false := frozen_of_row w g i cs t h
theorem Blk.new (w : World) (t : TypeId) (cs : Array Value) : Blk (w.alloc (.cells cs t)) w.heap.size t cs := heap_alloc_new w _
theorem Blk.drew (h : Blk w g t cs) : Blk w.drew g t cs := h
theorem Blk.drewN (h : Blk w g t cs) (n : Nat) : Blk (w.drewN n) g t cs := h
theorem Blk.alloc (h : Blk w g t cs) (o : Obj) : Blk (w.alloc o) g t cs := (Below.heap_alloc w o g h.lt).trans h
theorem Blk.set (h : Blk w g t cs) (i : Nat) (u : Value) : Blk (w.setCell ⟨g, i, none⟩ u) g t (cs.setIfInBounds i u) := by
  unfold Blk at h ⊢
  simp [World.setCell, Array.getElem?_modify, h]
theorem Blk.far (h : Blk w g t cs) {p : Addr} (hp : g ≠ p.block) (u : Value) : Blk (w.setCell p u) g t cs := (Below.heap_setCell w p u g hp).trans h
theorem Blk.grown {row : Option Nat} (h : Blk w g t cs) (hb : w.grownBy w' row) (hg : some g ≠ row) : Blk w' g t cs := (hb.block g h.lt hg).trans h
theorem Blk.below {B : Nat} (h : Blk w g t cs) (hb : Below B w w') (hg : g < B) : Blk w' g t cs := (hb.block g hg).trans h
theorem Blk.kept (h : Blk w g t cs) (hb : Below w.heap.size w w') : Blk w' g t cs := h.below hb h.lt
theorem Blk.ne {g' : Nat} {t' : TypeId} {cs' : Array Value} (h : Blk w g t cs) (h' : Blk w g' t' cs') (hne : t ≠ t') : g ≠ g' := by
  rintro rfl
  unfold Blk at h h'
  rw [h] at h'
  injection h' with h'
  injection h' with _ ht
  exact hne ht
theorem Blk.heap (h : Blk w g t cs) (e : w'.heap = w.heap) : Blk w' g t cs := by unfold Blk; rw [e]; exact h
end

theorem run_store_flt (P : Program) (w : World) (a : Addr) (m : Mode) (k : FloatKind) (b : Nat) : (store a (.float k b) m).run P w = stored P w a (.float k b) m := run_store P w a _ m rfl

/-- two steps, each of which leaves alone what lay there when it began -/
theorem below_then {a b c : World} (h : Below a.heap.size a b) (k : Below b.heap.size b c) : Below a.heap.size a c := h.trans (k.mono h.size)
theorem below_drewN {B : Nat} {a w : World} (h : Below B a w) (n : Nat) : Below B a (w.drewN n) := ⟨h.os, h.tape, h.output, h.size, h.block⟩
theorem below_cell {w w' : World} (hb : Below w.heap.size w w') {p : Addr} {v : Value} (h : w.cell? p = some v) : w'.cell? p = some v := (hb.cell (World.block_lt_of_cell? w p h)).trans h
theorem below_of_grown {a w : World} (h : a.grownBy w none) : Below a.heap.size a w := ⟨h.os, h.tape, h.output, h.size, fun i hi => h.block i hi (by simp)⟩
theorem below_of_grown_new {a w : World} {g : Nat} (h : a.grownBy w (some g)) {B : Nat} (hB : B ≤ g) (hB' : B ≤ a.heap.size) : Below B a w :=
  ⟨h.os, h.tape, h.output, h.size, fun i hi => h.block i (by omega) (by simp; omega)⟩
theorem grown_of_below {a w : World} (h : Below a.heap.size a w) (row : Option Nat) : a.grownBy w row := ⟨h.os, h.tape, h.output, h.size, fun i hi _ => h.block i hi⟩
theorem grown_then {a b c : World} {row : Option Nat} (h : a.grownBy b row) (k : b.grownBy c row) : a.grownBy c row :=
  ⟨k.os.trans h.os, k.tape.trans h.tape, k.output.trans h.output, Nat.le_trans h.size k.size, fun i hi hne => (k.block i (Nat.lt_of_lt_of_le hi h.size) hne).trans (h.block i hi hne)⟩
theorem grown_drewN {a w : World} {row : Option Nat} (h : a.grownBy w row) (n : Nat) : a.grownBy (w.drewN n) row := ⟨h.os, h.tape, h.output, h.size, h.block⟩
theorem grown_set {a w : World} {g : Nat} (h : a.grownBy w (some g)) (i : Nat) (u : Value) : a.grownBy (w.setCell ⟨g, i, none⟩ u) (some g) :=
  ⟨h.os, h.tape, h.output, by simpa using h.size, fun k hk hne => (Below.heap_setCell w _ u k (fun e => hne (by rw [e]))).trans (h.block k hk hne)⟩

/-- a slice (address A, n elements) whose elements are one cell each and read as xs -/
def Sl (w : World) (A : Option Addr) (n : Nat) (xs : List Value) : Prop :=
  xs.length = n ∧ (0 < n → ∃ b o, A = some ⟨b, o, none⟩ ∧ ∀ j, j < n → w.cell? ⟨b, o + j, none⟩ = xs[j]?)

section
variable {w w' : World} {A : Option Addr} {n : Nat} {xs : List Value}
theorem Sl.none_ (w : World) (A : Option Addr) : Sl w A 0 [] := ⟨rfl, fun h => absurd h (by omega)⟩
theorem Sl.keep (h : Sl w A n xs) (hk : ∀ p v, w.cell? p = some v → w'.cell? p = some v) : Sl w' A n xs := by
  refine ⟨h.1, fun hn => ?_⟩
  obtain ⟨b, o, e, hc⟩ := h.2 hn
  refine ⟨b, o, e, fun j hj => ?_⟩
  have hj' : j < xs.length := by rw [h.1]; exact hj
  have := hc j hj
  rw [List.getElem?_eq_getElem hj'] at this ⊢
  exact hk _ _ this
theorem Sl.below (h : Sl w A n xs) (hb : Below w.heap.size w w') : Sl w' A n xs := h.keep fun _ _ hp => below_cell hb hp
theorem Sl.drewN (h : Sl w A n xs) (k : Nat) : Sl (w.drewN k) A n xs := h
theorem Sl.alloc (h : Sl w A n xs) (o : Obj) : Sl (w.alloc o) A n xs := h.keep fun p v hp => by rw [World.cell?_alloc_lt w o p (World.block_lt_of_cell? w p hp)]; exact hp
theorem Sl.of_blk {g : Nat} {t : TypeId} {cur : Array Value} (h : Blk w g t cur) (hx : cur.toList.take n = xs) (hn : n ≤ cur.size) : Sl w (some ⟨g, 0, none⟩) n xs := by
  have hl : xs.length = n := by rw [← hx, List.length_take]; simp; omega
  refine ⟨hl, fun _ => ⟨g, 0, rfl, fun j hj => ?_⟩⟩
  rw [Nat.zero_add, h.cell j, ← hx, List.getElem?_take, if_pos hj]
  simp
end
end Go.Proofs.YtjfgfoeenajneaaGreatDoor
namespace Go.Proofs.YtjfgfoeenajneaaGreatDoor.Sg
open Go.RowKit

def Bs (l : List UInt8) : ByteArray := ⟨l.toArray⟩
theorem Bs_size (l : List UInt8) : (Bs l).size = l.length := by simp [Bs, ByteArray.size]
theorem Bs_data (s : ByteArray) : Bs s.data.toList = s := by simp [Bs]
theorem Bs_get (l : List UInt8) (i : Nat) (h : i < (Bs l).size) : (Bs l)[i] = l.getD i 0 := by
  have h' : i < l.length := by rw [Bs_size] at h; exact h
  show (Bs l).data[i] = _
  rw [List.getD_eq_getElem?_getD, List.getElem?_eq_getElem h']
  simp [Bs]
theorem Bs_cut (l : List UInt8) (a b : Nat) : (Bs l).extract a b = Bs ((l.drop a).take (b - a)) := by
  apply ByteArray.ext
  simp [Bs, ByteArray.data_extract]
theorem Bs_inj {l m : List UInt8} (h : Bs l = Bs m) : l = m := by
  have : (Bs l).data.toList = (Bs m).data.toList := by rw [h]
  simpa [Bs] using this

/-- only block d has turned, and new blocks are there -/
theorem grown_one {w : World} {d : Nat} (v : Value) : w.grownBy (w.setCell ⟨d, 0, none⟩ v) (some d) :=
  grown_set (grown_of_below (Below.refl _ _) (some d)) 0 v
theorem drop_getD (l : List UInt8) (k i : Nat) : (l.drop k).getD i 0 = l.getD (k + i) 0 := by
  simp [List.getD_eq_getElem?_getD]
/-- a block that holds a string -/
abbrev StrAt (ty : TypeId) (w : World) (d : Nat) (l : List UInt8) : Prop := Blk w d ty #[.string (Bs l)]
def strLen (w : World) (d : Nat) : Nat := match w.cell? ⟨d, 0, none⟩ with
  | some (.string s) => s.size
  | _ => 0
theorem strLen_at {ty : TypeId} {w : World} {d : Nat} {l : List UInt8} (h : StrAt ty w d l) : strLen w d = l.length := by
  unfold strLen
  rw [h.cell]
  show (Bs l).size = _
  exact Bs_size l
theorem StrAt.set {ty : TypeId} {w : World} {d : Nat} {l m : List UInt8} (h : StrAt ty w d l) : StrAt ty (w.setCell ⟨d, 0, none⟩ (.string (Bs m))) d m := Blk.set h 0 _

/-- byte i, as a number; two bytes -/
def nb (l : List UInt8) (i : Nat) : Nat := (l.getD i 0).toNat
theorem nb_lt (l : List UInt8) (i : Nat) : (nb l i : Int) ≤ 255 := by unfold nb; have := (l.getD i 0).toNat_lt; omega
theorem nb_drop (l : List UInt8) (k i : Nat) : nb (l.drop k) i = nb l (k + i) := by unfold nb; rw [drop_getD]
theorem nb_cons (b : UInt8) (l : List UInt8) : nb (b :: l) 0 = b.toNat := rfl
def nb2 (l : List UInt8) (i : Nat) : Nat := 256 * nb l i + nb l (i + 1)
theorem nb2_lt (l : List UInt8) (i : Nat) : (nb2 l i : Int) ≤ 65535 := by have := nb_lt l i; have := nb_lt l (i + 1); unfold nb2; omega
theorem nb2_two (l : List UInt8) (i : Nat) : two (l.getD i 0) (l.getD (i + 1) 0) = nb2 l i := rfl
theorem nb2_drop (l : List UInt8) (k i : Nat) : nb2 (l.drop k) i = nb2 l (k + i) := by unfold nb2; rw [nb_drop, nb_drop, Nat.add_assoc]
/-- the next byte, as a number -/
def OneP (d : Nat) (l : List UInt8) (w : World) (e : Ending) (w' : World) : Prop :=
  e = .returned (.int .i64 (nb l 0 : Nat)) ∧ StrAt 123 w' d (l.drop 1) ∧ w.grownBy w' (some d)
set_option maxHeartbeats 400000 in
theorem one_any (d : Nat) (l : List UInt8) (w : World) (hd : StrAt 123 w d l) (hl : l.length ≤ 1152921504606846976) :
    Calls Tryz.prog 96 #[.pointer (some ⟨d, 0, none⟩)] w (OneP d l w) := by
  cases l with
  | nil =>
    have c0 : w.cell? ⟨d, 0, none⟩ = some (.string (Bs [])) := by rw [hd.cell]; rfl
    have hz := Bs_size []
    go_enter Tryz.func96, Tryz.ntmps96
    go_wp2_with fail
    go_ret
    exact ⟨rfl, hd, grown_of_below (Below.refl _ _) _⟩
  | cons b l =>
    have c0 : w.cell? ⟨d, 0, none⟩ = some (.string (Bs (b :: l))) := by rw [hd.cell]; rfl
    have f0 := hd.frozen 0
    have hz := Bs_size (b :: l)
    simp only [List.length_cons] at hz hl
    have hg : ∀ h : 0 < (Bs (b :: l)).size, (Bs (b :: l))[0] = b := fun _ => rfl
    have hb : (b.toNat : Int) ≤ 255 := by have := b.toNat_lt; omega
    have hx : (Bs (b :: l)).extract 1 (l.length + 1) = Bs l := by rw [Bs_cut]; simp
    go_enter Tryz.func96, Tryz.ntmps96
    go_wp2_with fail
    go_ret
    exact ⟨rfl, hd.set, grown_one _⟩
def TwoP (d : Nat) (l : List UInt8) (w : World) (e : Ending) (w' : World) : Prop :=
  e = .returned (.int .i64 (nb2 l 0 : Nat)) ∧ StrAt 123 w' d (l.drop 2) ∧ w.grownBy w' (some d)
set_option maxHeartbeats 400000 in
theorem two_any (d : Nat) (l : List UInt8) (w : World) (hd : StrAt 123 w d l) (hl : l.length ≤ 1152921504606846976) :
    Calls Tryz.prog 61 #[.pointer (some ⟨d, 0, none⟩)] w (TwoP d l w) := by
  have hb1 := nb_lt l 0
  have hb2 := nb_lt l 1
  go_enter Tryz.func61, Tryz.ntmps61
  go_wp2_with fail
  refine (one_any d l w hd hl).mono ?_
  rintro e w1 ⟨rfl, h1, g1⟩
  go_wp2_with fail
  refine (one_any d (l.drop 1) w1 h1 (by simp; omega)).mono ?_
  rintro e w2 ⟨rfl, h2, g2⟩
  rw [List.drop_drop] at h2
  rw [nb_drop, show 1 + 0 = 1 from rfl]
  have fin : TwoP d l w (.returned (.int .i64 (256 * (nb l 0 : Int) + (nb l 1 : Int)))) w2 := ⟨by unfold nb2; congr 2, h2, grown_then g1 g2⟩
  generalize nb l 0 = x at hb1 fin ⊢
  generalize nb l 1 = y at hb2 fin ⊢
  go_wp2_with fail
  go_ret
  exact fin
end Go.Proofs.YtjfgfoeenajneaaGreatDoor.Sg
namespace Go.Proofs.YtjfgfoeenajneaaGreatDoor.Sg
open Go.RowKit

def u16s (t : List Nat) : Array Value := (t.map fun (n : Nat) => Value.int .u16 (n : Int)).toArray
theorem u16s_get (t : List Nat) (k : Nat) (h : k < t.length) : (u16s t)[k]? = some (.int .u16 (t.getD k 0 : Nat)) := by
  unfold u16s
  rw [List.getElem?_toArray, List.getElem?_map, List.getElem?_eq_getElem h, List.getD_eq_getElem?_getD, List.getElem?_eq_getElem h]
  rfl
theorem any_take_next (t : List Nat) (p : Nat → Bool) (k : Nat) (h : k < t.length) : (t.take (k + 1)).any p = ((t.take k).any p || p (t.getD k 0)) := by
  rw [List.take_succ_eq_append_getElem h, List.any_append, List.getD_eq_getElem?_getD, List.getElem?_eq_getElem h]
  simp
theorem any_at (t : List Nat) (p : Nat → Bool) (k : Nat) (h : k < t.length) (hp : p (t.getD k 0) = true) : t.any p = true := by
  rw [List.any_eq_true]
  refine ⟨t[k], List.getElem_mem h, ?_⟩
  rw [List.getD_eq_getElem?_getD, List.getElem?_eq_getElem h] at hp
  simpa using hp
theorem ret_bool {a b : Bool} (h : a = b) : Ending.returned (.bool a) = .returned (.bool b) := by rw [h]
theorem ret_int {k : IntKind} {a b : Int} (h : a = b) : Ending.returned (.int k a) = .returned (.int k b) := by rw [h]
set_option maxHeartbeats 1000000 in
theorem zero_any (t : List Nat) (w : World) (ht : t.length = 64) :
    Calls Tryz.prog 97 #[.agg (u16s t)] w fun e w' => e = .returned (.bool (zeroM t)) ∧ Below w.heap.size w w' := by
  go_enter Tryz.func97, Tryz.ntmps97
  go_wp2_with fail
  have hu : Blk (w.alloc (.cells (u16s t) 79)) w.heap.size 79 (u16s t) := Blk.new w _ _
  have hb : Below w.heap.size w (w.alloc (.cells (u16s t) 79)) := (Below.refl _ _).alloc (Nat.le_refl _) _
  generalize (w.alloc (.cells (u16s t) 79)) = w1 at hu hb ⊢
  generalize w.heap.size = a at hu ⊢
  go_loop [3] (fun i => ∃ k : Nat, k ≤ 64 ∧ i = .int .i64 k ∧ (t.take k).any (· == 0) = false) (fun i => 64 - (intOf i).toNat)
  case atStart => exact ⟨0, by omega, rfl, rfl⟩
  case round =>
    obtain ⟨k, hk, rfl, hr⟩ := hrel
    by_cases hlt : k < 64
    · have c0 : w1.cell? ⟨a, k, none⟩ = some (.int .u16 (t.getD k 0 : Nat)) := by rw [hu.cell, u16s_get t k (by omega)]
      have hnx := any_take_next t (· == 0) k (by omega)
      have hat := any_at t (· == 0) k (by omega)
      rw [hr, Bool.false_or] at hnx
      generalize t.getD k 0 = x at c0 hnx hat
      have HX := Lib.hid (And.intro hnx hat)
      clear hnx hat hr
      by_cases h0 : x = 0
      · subst h0
        rw [show ((0 : Nat) : Int) = 0 from rfl] at c0
        go_wp2_with fail
        go_ret
        exact ⟨ret_bool (HX.out.2 rfl).symm, hb⟩
      · have h0' : ((x : Int) == 0) = false := by simp; omega
        have h0'' : ¬ (x : Int) = 0 := by omega
        have h0n : (x == 0) = false := by simpa using h0
        go_wp2_with fail
        go_round
        case rel => exact ⟨k + 1, by omega, by go_num, by rw [HX.out.1]; simpa using h0⟩
        case measure => simp [intOf]; omega
    · obtain rfl : k = 64 := by omega
      go_wp2_with fail
      go_ret
      exact ⟨ret_bool (by unfold zeroM; rw [List.take_of_length_le (by omega)] at hr; exact hr.symm), hb⟩
set_option maxHeartbeats 1000000 in
theorem wide_any (t : List Nat) (w : World) (ht : t.length = 64) :
    Calls Tryz.prog 88 #[.agg (u16s t)] w fun e w' => e = .returned (.bool (largeM t)) ∧ Below w.heap.size w w' := by
  go_enter Tryz.func88, Tryz.ntmps88
  go_wp2_with fail
  have hu : Blk (w.alloc (.cells (u16s t) 79)) w.heap.size 79 (u16s t) := Blk.new w _ _
  have hb : Below w.heap.size w (w.alloc (.cells (u16s t) 79)) := (Below.refl _ _).alloc (Nat.le_refl _) _
  generalize (w.alloc (.cells (u16s t) 79)) = w1 at hu hb ⊢
  generalize w.heap.size = a at hu ⊢
  go_loop [3] (fun i => ∃ k : Nat, k ≤ 64 ∧ i = .int .i64 k ∧ (t.take k).any (fun x => decide (255 < x)) = false) (fun i => 64 - (intOf i).toNat)
  case atStart => exact ⟨0, by omega, rfl, rfl⟩
  case round =>
    obtain ⟨k, hk, rfl, hr⟩ := hrel
    by_cases hlt : k < 64
    · have c0 : w1.cell? ⟨a, k, none⟩ = some (.int .u16 (t.getD k 0 : Nat)) := by rw [hu.cell, u16s_get t k (by omega)]
      have hnx := any_take_next t (fun x => decide (255 < x)) k (by omega)
      have hat := any_at t (fun x => decide (255 < x)) k (by omega)
      rw [hr, Bool.false_or] at hnx
      generalize t.getD k 0 = x at c0 hnx hat
      have HX := Lib.hid (And.intro hnx hat)
      clear hnx hat hr
      by_cases h0 : 255 < x
      · have h0' : ¬ (x : Int) ≤ 255 := by omega
        go_wp2_with fail
        go_ret
        exact ⟨ret_bool (HX.out.2 (by simpa using h0)).symm, hb⟩
      · have h0' : (x : Int) ≤ 255 := by omega
        go_wp2_with fail
        go_round
        case rel => exact ⟨k + 1, by omega, by go_num, by rw [HX.out.1]; simpa using h0⟩
        case measure => simp [intOf]; omega
    · obtain rfl : k = 64 := by omega
      go_wp2_with fail
      go_ret
      exact ⟨ret_bool (by unfold largeM; rw [List.take_of_length_le (by omega)] at hr; exact hr.symm), hb⟩
end Go.Proofs.YtjfgfoeenajneaaGreatDoor.Sg
namespace Go.Proofs.YtjfgfoeenajneaaGreatDoor.Sg
open Go.RowKit

theorem own_keep {w w' : World} {base : Nat} {e : TypeId} {s n : Nat} {v : Value} {xs : List Value} (h : w.ownsRow base e s v n xs) (hk : ∀ g, v.ownBlock = some g → w'.heap[g]? = w.heap[g]?) : w'.ownsRow base e s v n xs := by
  refine ⟨h.1, ?_⟩
  rcases h.2 with hn | ⟨g, cap, cur, rfl, q1, q2, q3⟩
  · exact .inl hn
  · exact .inr ⟨g, cap, cur, rfl, q1, (hk g rfl).trans q2, q3⟩
theorem own_grown {w w' : World} {base : Nat} {e : TypeId} {s n : Nat} {v : Value} {xs : List Value} {r : Option Nat} (h : w.ownsRow base e s v n xs) (hg : w.grownBy w' r) (hr : v.ownBlock = none ∨ v.ownBlock ≠ r) : w'.ownsRow base e s v n xs := by
  refine own_keep h fun g hv => hg.block g (h.lt g hv).2 fun e => ?_
  rcases hr with q | q
  · rw [q] at hv; cases hv
  · exact q (hv.trans e)
theorem grown_alloc {a w : World} {r : Option Nat} (h : a.grownBy w r) (o : Obj) : a.grownBy (w.alloc o) r :=
  ⟨h.os, h.tape, h.output, by have := h.size; simp; omega, fun i hi hr => (heap_alloc_old w o (Nat.lt_of_lt_of_le hi h.size)).trans (h.block i hi hr)⟩
theorem grown_write {a w : World} {r : Option Nat} (h : a.grownBy w r) {p : Addr} (hp : a.heap.size ≤ p.block ∨ some p.block = r) (v : Value) : a.grownBy (w.setCell p v) r :=
  ⟨h.os, h.tape, h.output, by simpa using h.size, fun i hi hr => by
    rw [Below.heap_setCell w p v i (fun e => by subst e; rcases hp with q | q; omega; exact hr q)]
    exact h.block i hi hr⟩
theorem grown_row {a w : World} {r : Option Nat} (h : a.grownBy w r) {g : Nat} (hp : a.heap.size ≤ g ∨ some g = r) (cs : Array Value) : a.grownBy (w.setRow g cs) r :=
  ⟨h.os, h.tape, h.output, by simpa using h.size, fun i hi hr => by
    rw [setRow_other w g i cs (fun e => by subst e; rcases hp with q | q; omega; exact hr q)]
    exact h.block i hi hr⟩
theorem grown_after {a b c : World} {r : Option Nat} (h : a.grownBy b r) (k : b.grownBy c r) : a.grownBy c r := grown_then h k
theorem grown_own {a b c : World} {r s : Option Nat} (h : a.grownBy b r) (k : b.grownBy c s) (hs : ∀ g, s = some g → a.heap.size ≤ g ∨ some g = r) : a.grownBy c r :=
  ⟨k.os.trans h.os, k.tape.trans h.tape, k.output.trans h.output, Nat.le_trans h.size k.size, fun i hi hr => by
    rw [k.block i (Nat.lt_of_lt_of_le hi h.size) (fun e => by
      rcases hs i e.symm with q | q
      · omega
      · exact hr q)]
    exact h.block i hi hr⟩
theorem below_grown {a b : World} (h : Below a.heap.size a b) (r : Option Nat) : a.grownBy b r := grown_of_below h r
theorem grown_below {a b : World} (h : a.grownBy b none) : Below a.heap.size a b := below_of_grown h
theorem _root_.Go.Proofs.YtjfgfoeenajneaaGreatDoor.Blk.row {w : World} {g : Nat} {t : TypeId} {cs ds : Array Value} (h : Blk w g t cs) : Blk (w.setRow g ds) g t ds := setRow_heap w g cs ds t (0, 0) h
theorem _root_.Go.Proofs.YtjfgfoeenajneaaGreatDoor.Blk.rowFar {w : World} {g g' : Nat} {t : TypeId} {cs ds : Array Value} (h : Blk w g t cs) (hne : g ≠ g') : Blk (w.setRow g' ds) g t cs := (setRow_other w g' g ds hne).trans h
theorem _root_.Go.Proofs.YtjfgfoeenajneaaGreatDoor.Blk.keeps {w w' : World} {g : Nat} {t : TypeId} {cs : Array Value} (h : Blk w g t cs) (hk : w'.heap[g]? = w.heap[g]?) : Blk w' g t cs := hk.trans h
theorem _root_.Go.Proofs.YtjfgfoeenajneaaGreatDoor.Blk.range {w : World} {g : Nat} {t : TypeId} {cs : Array Value} (h : Blk w g t cs) (o : Nat) (xs : List Value) (hx : (cs.toList.drop o).take xs.length = xs) : w.rangeAt g o xs := fun j v hv => by
  rw [h.cell]
  have hj : j < xs.length := (List.getElem?_eq_some_iff.1 hv).1
  rw [← hx, List.getElem?_take, if_pos hj, List.getElem?_drop] at hv
  simpa using hv

theorem own_slice {w : World} {base : Nat} {e : TypeId} {s n : Nat} {v : Value} {xs : List Value} (h : w.ownsRow base e s v n xs) : ∃ A c, v = .slice A n c := by
  rcases h.2 with ⟨rfl, rfl⟩ | ⟨g, cap, cur, rfl, _⟩
  · exact ⟨none, 0, rfl⟩
  · exact ⟨_, _, rfl⟩

/-- a slice of one struct -/
theorem wpList_buildOne {P : Program} {ops : Array Oper} {rest : List Oper} {o : Oper} {a : Act} {w : World} {Q : Exit → Act → World → Prop} (hg : o.guard = none) (t e : TypeId) (x : Operand) (ho : o.op = .buildSlice t 1 #[(0, x)])
    (C : Array Value) (hx : a.eval x = .agg C) (ie : TypeInfo) (z : Value) (s : Nat) (hu : P.underlying t = some (.slice e)) (hie : P.info? e = some ie) (hz : ie.zero = some z) (hs : ie.size = s) (hC : C.size = s) (hpos : 0 < s) (hsmall : s ≤ 16777216)
    (h : wpList P ops Q rest (a.put o.dst (.slice (some ⟨w.heap.size, 0, none⟩) 1 1)) (w.alloc (.cells C e))) : wpList P ops Q (o :: rest) a w := by
  refine wpList_buildSlice hg t e 1 _ ho C ie z hu hie hz (by rw [hs]; omega) (by rw [hs]; omega) ?_ h
  have h1 := Go.Great.fill_whole (s := s) hpos [.agg C] ((Array.range (1 * ie.size)).map (z.cells[· % z.cells.size]!)) (fun v hv => by simp at hv; subst hv; exact hC) (by simp [hs])
  rw [hs] at h1 ⊢
  simp only [List.map_toArray, List.map_cons, List.map_nil, hx]
  simpa [Value.cells] using h1
end Go.Proofs.YtjfgfoeenajneaaGreatDoor.Sg
