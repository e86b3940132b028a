/- The plane's functions at samples of type uint8 that make a plane or write into one. -/
import Derived.Test.YtlbocfinjlkebaaPlane0
import Derived.Test.YtlbocfinjlkebaaPlaneP8
namespace Go.Proofs.Ytlbocfinjlkebaa.P8
open Go.RowKit

attribute [local go_sem] run_store_flt

theorem info : (Try.prog.info? 5).map (fun i => (i.zero, i.size, i.bytes)) = some (some (.int .u8 0), 1, 1) := by kernel_rfl

/-- what slices.Clone makes of a slice that is not empty -/
def Made (w0 w : World) (n : Nat) (xs : List Value) (v : Value) : Prop :=
  ∃ g c cur, v = .slice (some ⟨g, 0, none⟩) n c ∧ Blk w g 5 cur ∧ cur.size = c ∧ cur.toList.take n = xs ∧ n ≤ c ∧ c ≤ maxLen ∧ w0.heap.size ≤ g

set_option maxHeartbeats 1000000 in
theorem clone_some (b o n c : Nat) (xs : List Value) (w : World) (hs : Sl w (some ⟨b, o, none⟩) n xs) (h0 : 0 < n) (hn : n ≤ 67108864) (h1 : ∀ u ∈ xs, u.oneCell' = true) :
    Calls Try.prog 95 #[.slice (some ⟨b, o, none⟩) n c] w fun e w' => ∃ v, e = .returned v ∧ Made w w' n xs v ∧ Below w.heap.size w w' := by
  obtain ⟨i0, hi, hz0, hz1, hz2⟩ := info_parts info
  have hnil := fun W => Lib.run_eql_slice_nil (P := Try.prog) W 28 5 (some ⟨b, o, none⟩) n c 0 0 Try.underlying28
  have hs' := hs.alloc (.cells #[] 5)
  obtain ⟨hl, hc⟩ := hs'
  obtain ⟨b', o', e, hc⟩ := hc h0
  injection e with e
  injection e with e1 e2
  subst e1 e2
  have hmx : n ≤ maxLen := by unfold maxLen; omega
  have hown : (w.alloc (.cells #[] 5)).ownsRow w.heap.size 5 1 (.slice (some ⟨w.heap.size, 0, none⟩) 0 0) 0 [] := World.ownsRow_made w #[] 0 (Nat.le_refl _) (by simp [maxLen]) rfl
  go_enter Try.func95, Try.ntmps95
  go_wp2_with (at_builtin; refine wpList_append_lies _ rfl _ _ 28 rfl w.heap.size 5 i0 (.int .u8 0) 1 1 Try.underlying28 hi hz0 hz1 hz2 rfl (by decide) (.slice (some ⟨w.heap.size, 0, none⟩) 0 0) 0 [] rfl hown ⟨b, o, none⟩ n c xs rfl (by omega) (news_of_sl hl hc) h1 h0 (by omega) (by omega) (by simp) (w.heap.size + 1) (by simp) ?_; intro g cap w1 hown1 hgrow hat hlt)
  go_ret
  obtain ⟨cur, k1, k2, k3, k4, k5, k6⟩ := row_of_owns hown1
  simp only [Nat.zero_add, List.nil_append] at *
  exact ⟨_, rfl, ⟨g, cap, cur, rfl, k1, k2, k3, k5, k6, k4⟩, (((Below.refl _ _).alloc (Nat.le_refl _) _).grown hgrow (by simp) (by simp [Value.ownBlock]))⟩

/-- a new plane is handed back -/
def MadeP (w0 : World) (W H : Nat) (xs : List Value) (e : Ending) (w : World) : Prop :=
  ∃ p g c, e = .returned (.tuple #[.pointer (some ⟨p, 0, none⟩), .int .i64 0]) ∧ PA w p g W H c xs ∧ w0.heap.size ≤ p ∧ w0.heap.size ≤ g ∧ Below w0.heap.size w0 w

set_option maxHeartbeats 1000000 in
theorem pix_any (b g W H c : Nat) (xs : List Value) (w : World) (hp : PA w b g W H c xs) (h1 : ∀ u ∈ xs, u.oneCell' = true) :
    Calls Try.prog 76 #[.pointer (some ⟨b, 0, none⟩)] w fun e w' => ∃ v, e = .returned v ∧ Made w w' (W * H) xs v ∧ Below w.heap.size w w' := by
  have c0 := hp.c0
  have c1 := hp.c1
  have c2 := hp.c2
  have hsl : Sl w (some ⟨g, 0, none⟩) (W * H) xs := by obtain ⟨cur, k1, k2, k3⟩ := hp.row; exact Sl.of_blk k1 k3 (by have := hp.cap; omega)
  have hpos : 0 < W * H := Nat.mul_pos hp.wide hp.high
  have hsz := hp.size
  go_enter Try.func76, Try.ntmps76
  go_wp2_with (go_at_call 95; refine (clone_some g 0 (W * H) c xs _ hsl hpos hsz h1).mono ?_; rintro e w' ⟨v, rfl, hv, hb⟩)
  go_ret
  exact ⟨_, rfl, hv, hb⟩

set_option maxRecDepth 100000 in
set_option maxHeartbeats 1000000 in
theorem set_in (b g W H c : Nat) (xs : List Value) (x y : Int) (n : Int) (w : World) (hp : PA w b g W H c xs) (hx : 0 ≤ x) (hx' : x < W) (hy : 0 ≤ y) (hy' : y < H) :
    Calls Try.prog 26 #[.pointer (some ⟨b, 0, none⟩), .int .i64 x, .int .i64 y, .int .u8 n] w fun e w' =>
      e = .returned (.bool true) ∧ PA w' b g W H c (xs.set (y.toNat * W + x.toNat) (.int .u8 n)) ∧ w.grownBy w' (some g) := by
  have c0 := hp.c0
  have c1 := hp.c1
  have c2 := hp.c2
  obtain ⟨m, hm, hm', hlt, hlt'⟩ := hp.place hx hx' hy hy'
  have hs := hp.size
  have hc := hp.cellAt hlt'
  have hf := hp.frozenAt (m + x.toNat)
  have hb : inB x y W H = true := by unfold inB; simp; omega
  rw [hm']
  obtain ⟨i, rfl⟩ := Int.eq_ofNat_of_zero_le hx
  simp only [Int.toNat_natCast] at hc hlt' hf ⊢
  generalize hv : xs.getD (m + i) undef = v at *
  have HI := Lib.hid hb; clear hb
  have HM := Lib.hid hm'; clear hm'
  have HV := Lib.hid hv; clear hv
  generalize hN : W * H = N at c2 hlt hlt' hs
  have HN := Lib.hid hN; clear hN
  have w1 : IntKind.i64.wrap ((m : Int) + (i : Int)) = (m : Int) + (i : Int) := IntWalk.i64_in _ (by omega)
  have w4 : IntKind.i64.wrap (m : Int) = (m : Int) := IntWalk.i64_in _ (by omega)
  have w5 : (m : Int) + (i : Int) < (N : Int) := by omega
  have hne := hp.ne
  have k0 := fun v => (World.cell?_setCell_other w ⟨g, m + i, none⟩ ⟨b, 0, none⟩ v (by intro e; injection e with e; exact hne e.symm)).trans c0
  have k2 := fun v => (World.cell?_setCell_other w ⟨g, m + i, none⟩ ⟨b, 2, none⟩ v (by intro e; injection e with e; exact hne e.symm)).trans c2
  have w2 : (0 : Int) ≤ (m : Int) + (i : Int) := by omega
  have w3 : ((m : Int) + (i : Int)).toNat = m + i := by omega
  go_enter Try.func26, Try.ntmps26
  go_wp2_with (go_at_call 81; refine (in_any b g W H c xs _ _ _ hp).mono ?_; rw [HI.out]; rintro e w' ⟨rfl, rfl⟩)
  go_region_held3 (fun w' => w'.cell? ⟨b, 0, none⟩ = some (.int .i64 W) ∧ w'.cell? ⟨b, 2, none⟩ = some (.slice (some ⟨g, 0, none⟩) N c)) (go_keep) (fail)
  go_wp2
  go_ret
  refine ⟨rfl, (hp.set (m + i) (.int .u8 n)).drewN 1, ?_⟩
  exact grown_drewN (grown_set (World.grownBy.refl w _) (m + i) (.int .u8 n)) 1

set_option maxHeartbeats 1000000 in
theorem set_out (b g W H c : Nat) (xs : List Value) (x y : Int) (n : Int) (w : World) (hp : PA w b g W H c xs) (hb : inB x y W H = false) :
    Calls Try.prog 26 #[.pointer (some ⟨b, 0, none⟩), .int .i64 x, .int .i64 y, .int .u8 n] w fun e w' => e = .returned (.bool false) ∧ w = w' := by
  have HI := Lib.hid hb; clear hb
  go_enter Try.func26, Try.ntmps26
  go_wp2_with (go_at_call 81; refine (in_any b g W H c xs _ _ _ hp).mono ?_; rw [HI.out]; rintro e w' ⟨rfl, rfl⟩)
  go_ret
  exact ⟨rfl, rfl⟩

set_option maxHeartbeats 1000000 in
theorem new_yes (W H : Nat) (w : World) (hf : fitsB W H = true) :
    Calls Try.prog 25 #[.int .i64 W, .int .i64 H] w fun e w' =>
      e = .returned (.tuple #[.pointer (some ⟨w.heap.size + 1, 0, none⟩), .int .i64 0]) ∧ PA w' (w.heap.size + 1) w.heap.size W H (W * H) (List.replicate (W * H) (.int .u8 0)) ∧ Below w.heap.size w w' := by
  obtain ⟨i0, hi, hz0, hz1, hz2⟩ := info_parts info
  obtain ⟨h1, h2, h3⟩ := (fitsB_iff _ _).1 hf
  have h3' : W * H ≤ 67108864 := by
    have : ((W * H : Nat) : Int) ≤ 67108864 := by rw [Int.natCast_mul]; exact h3
    omega
  have HF := Lib.hid hf; clear hf
  obtain ⟨N, hN⟩ : ∃ N, W * H = N := ⟨_, rfl⟩
  have hNi : (W : Int) * (H : Int) = (N : Int) := by rw [← hN, Int.natCast_mul]
  rw [hN] at h3' ⊢
  clear h3
  have HN := Lib.hid hN; clear hN
  have hmk := fun u => run_make_n (P := Try.prog) 28 5 i0 (.int .u8 0) Try.underlying28 hi hz0 hz1 N (by rw [hz2]; omega) (by omega) u
  go_enter Try.func25, Try.ntmps25
  go_wp2_with (go_at_call 82; refine (fits_any _ _ _).mono ?_; rw [HF.out]; rintro e w' ⟨rfl, rfl⟩)
  go_ret2
  have hs : (madeCells (Value.cells (.int .u8 0)) N).size = N := size_madeCells _ _
  have ht : (madeCells (Value.cells (.int .u8 0)) N).toList.take (W * H) = List.replicate N (.int .u8 0) := by
    rw [show (madeCells (Value.cells (.int .u8 0)) N).toList = List.replicate N (.int .u8 0) from toList_madeCells_one _ _, HN.out, List.take_replicate, Nat.min_self]
  refine ⟨rfl, ?_, ((Below.refl _ _).alloc (Nat.le_refl _) _).alloc (by simp) _⟩
  rw [← ht]
  refine plane_mk ?_ ((Blk.new w _ _).alloc _) hs (by omega) HF.out (by rw [HN.out]; omega) (by unfold maxLen; omega)
  rw [HN.out]
  exact (show (w.alloc (.cells (madeCells (Value.cells (.int .u8 0)) N) 5)).heap.size = w.heap.size + 1 by simp) ▸ Blk.new (w.alloc (.cells (madeCells (Value.cells (.int .u8 0)) N) 5)) _ _

set_option maxHeartbeats 1000000 in
theorem new_no (W H : Int) (w : World) (hf : fitsB W H = false) :
    Calls Try.prog 25 #[.int .i64 W, .int .i64 H] w fun e w' => e = .returned (.tuple #[.pointer none, .int .i64 120]) ∧ w = w' := by
  have HF := Lib.hid hf; clear hf
  go_enter Try.func25, Try.ntmps25
  go_wp2_with (go_at_call 82; refine (fits_any _ _ _).mono ?_; rw [HF.out]; rintro e w' ⟨rfl, rfl⟩)
  go_ret2
  exact ⟨rfl, rfl⟩

set_option maxHeartbeats 1000000 in
theorem of_yes (W H b o c : Nat) (xs : List Value) (w : World) (hf : fitsB W H = true) (hs : Sl w (some ⟨b, o, none⟩) (W * H) xs) (h1 : ∀ u ∈ xs, u.oneCell' = true) :
    Calls Try.prog 50 #[.int .i64 W, .int .i64 H, .slice (some ⟨b, o, none⟩) (W * H) c] w (MadeP w W H xs) := by
  obtain ⟨hw, hh, h3⟩ := (fitsB_iff _ _).1 hf
  have h3' : W * H ≤ 67108864 := by
    have : ((W * H : Nat) : Int) ≤ 67108864 := by rw [Int.natCast_mul]; exact h3
    omega
  have hpos : 0 < W * H := Nat.mul_pos (by omega) (by omega)
  have HF := Lib.hid hf; clear hf
  obtain ⟨N, hN⟩ : ∃ N, W * H = N := ⟨_, rfl⟩
  have hNi : (W : Int) * (H : Int) = (N : Int) := by rw [← hN, Int.natCast_mul]
  rw [hN] at h3' hs hpos ⊢
  clear h3
  have HN := Lib.hid hN; clear hN
  go_enter Try.func50, Try.ntmps50
  go_wp2_with (first | (go_at_call 82; refine (fits_any _ _ _).mono ?_; rw [HF.out]; rintro e w' ⟨rfl, rfl⟩) | (go_at_call 95; refine (clone_some b o N c xs _ hs hpos h3' h1).mono ?_; rintro e w' ⟨v, rfl, ⟨g, c', cur, rfl, k1, k2, k3, k4, k5, k6⟩, hb⟩))
  go_ret2
  have hx : cur.toList.take (W * H) = xs := by rw [HN.out]; exact k3
  refine ⟨_, g, c', rfl, ?_, hb.size, k6, hb.alloc hb.size _⟩
  rw [← hx]
  refine plane_mk ?_ (k1.alloc _) k2 (by have := k1.lt; omega) HF.out (by rw [HN.out]; omega) k5
  rw [HN.out]
  exact Blk.new w' _ _

set_option maxHeartbeats 1000000 in
theorem of_no (W H : Int) (A : Option Addr) (n c : Nat) (w : World) (hf : fitsB W H = false) :
    Calls Try.prog 50 #[.int .i64 W, .int .i64 H, .slice A n c] w fun e w' => e = .returned (.tuple #[.pointer none, .int .i64 120]) ∧ w = w' := by
  have HF := Lib.hid hf; clear hf
  go_enter Try.func50, Try.ntmps50
  go_wp2_with (go_at_call 82; refine (fits_any _ _ _).mono ?_; rw [HF.out]; rintro e w' ⟨rfl, rfl⟩)
  go_ret2
  exact ⟨rfl, rfl⟩

set_option maxHeartbeats 1000000 in
theorem of_len (W H : Nat) (A : Option Addr) (n c : Nat) (w : World) (hf : fitsB W H = true) (hn : n ≠ W * H) :
    Calls Try.prog 50 #[.int .i64 W, .int .i64 H, .slice A n c] w fun e w' => e = .returned (.tuple #[.pointer none, .int .i64 120]) ∧ w = w' := by
  obtain ⟨hw, hh, h3⟩ := (fitsB_iff _ _).1 hf
  have h3' : W * H ≤ 67108864 := by
    have : ((W * H : Nat) : Int) ≤ 67108864 := by rw [Int.natCast_mul]; exact h3
    omega
  have HF := Lib.hid hf; clear hf
  obtain ⟨N, hN⟩ : ∃ N, W * H = N := ⟨_, rfl⟩
  have hNi : (W : Int) * (H : Int) = (N : Int) := by rw [← hN, Int.natCast_mul]
  rw [hN] at h3' hn
  clear h3 hN
  have hne : ((n : Int) == (N : Int)) = false := by simp; omega
  have hne' : ((n : Int) != (N : Int)) = true := by simp; omega
  clear hn
  go_enter Try.func50, Try.ntmps50
  go_wp2_with (go_at_call 82; refine (fits_any _ _ _).mono ?_; rw [HF.out]; rintro e w' ⟨rfl, rfl⟩)
  go_ret2
  exact ⟨rfl, rfl⟩
end Go.Proofs.Ytlbocfinjlkebaa.P8
