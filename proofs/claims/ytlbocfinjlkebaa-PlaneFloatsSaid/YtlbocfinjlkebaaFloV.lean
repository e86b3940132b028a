/- Floats of 32 bits as numbers: values, rounding, sums, products, order. Plain Lean. -/
import Derived.Test.YtlbocfinjlkebaaFlo
namespace Go.Proofs.Ytlbocfinjlkebaa.Flo
open Ieee

/-- with its sign -/
def sg (s : Bool) (n : Nat) : Int := if s then -(n : Int) else n
theorem sg_false (n : Nat) : sg false n = n := rfl
theorem sg_true (n : Nat) : sg true n = -(n : Int) := rfl
theorem signed_eq (s : Bool) (m k : Nat) : signed s m k = sg s (m * 2 ^ k) := by
  unfold signed sg
  rw [Nat.shiftLeft_eq]
theorem sg_mul (s : Bool) (m k : Nat) : sg s (m * k) = sg s m * (k : Int) := by
  cases s
  · simp [sg]
  · simp [sg, Int.neg_mul]
theorem sg_xor (s t : Bool) (m n : Nat) : sg (s ^^ t) (m * n) = sg s m * sg t n := by
  cases s <;> cases t <;> simp [sg, Int.neg_mul, Int.mul_neg]
theorem sg_abs (s : Bool) (m : Nat) : (sg s m).natAbs = m := by cases s <;> simp [sg]
theorem sg_of (z : Int) : sg (decide (z < 0)) z.natAbs = z := by
  unfold sg
  by_cases h : z < 0
  · simp [h]; omega
  · simp [h]; omega

/-- the number of a datum, in units of 2 ^ -300 -/
def vD : Datum → Int
  | .number s m e => sg s (m * P e)
  | _ => 0
/-- the number of a word -/
def V (x : Nat) : Int := vD (single.read x)
/-- a word that is a number -/
def Fin (x : Nat) : Prop := ∃ s m e, single.read x = .number s m e ∧ -149 ≤ e ∧ m ≤ 16777216 ∧ e ≤ 104
theorem fin_read {x : Nat} {s : Bool} {m : Nat} {e : Int} (h : single.read x = .number s m e) : -149 ≤ e ∧ m ≤ 16777216 ∧ e ≤ 104 := by
  unfold Format.read at h
  have e1 : single.signWeight = 2147483648 := rfl
  have e2 : single.binade = 8388608 := rfl
  have e3 : single.leastPlace = -149 := rfl
  have e4 : single.infRung = 2139095040 := rfl
  rw [e1, e2, e3, e4] at h
  simp only [] at h
  split at h
  · injection h with h1 h2 h3
    omega
  · split at h
    · injection h with h1 h2 h3
      omega
    · split at h <;> cases h
theorem Fin.of {x : Nat} {s : Bool} {m : Nat} {e : Int} (h : single.read x = .number s m e) : Fin x := ⟨s, m, e, h, fin_read h⟩
/-- numbers that the format has -/
def Rep (z : Int) : Prop := ∃ (k : Nat) (j : Int), k ≤ 16777216 ∧ -149 ≤ j ∧ j ≤ 104 ∧ z.natAbs = k * P j
theorem rep_of_fin {x : Nat} (h : Fin x) : Rep (V x) := by
  obtain ⟨s, m, e, h, h1, h2, h3⟩ := h
  exact ⟨m, e, h2, h1, h3, by unfold V; rw [h]; exact sg_abs _ _⟩
theorem Rep.neg {z : Int} (h : Rep z) : Rep (-z) := by
  obtain ⟨k, j, a, b, c, d⟩ := h
  exact ⟨k, j, a, b, c, by rw [Int.natAbs_neg]; exact d⟩
theorem rep_zero : Rep 0 := ⟨0, 0, by omega, by omega, by omega, by simp⟩

/-- r is v, rounded -/
def Rd (v : Int) (r : Nat) : Prop := Fin r ∧ ∀ z, Rep z → (v ≤ z → V r ≤ z) ∧ (z ≤ v → z ≤ V r)
theorem Rd.exact {v : Int} {r : Nat} (h : Rd v r) (hv : Rep v) : V r = v := by
  have h1 := h.2 v hv
  have := h1.1 (Int.le_refl _)
  have := h1.2 (Int.le_refl _)
  omega

/-- rounding a magnitude passes no number of the format -/
theorem near_mono {X : Nat} {kept m' : Nat} {last e' : Int} (l1 : -149 ≤ last) (hv : m' * P e' = kept * P last) (hlow : last = -149 ∨ P (last + 23) ≤ X)
    (h1 : ∀ q, X ≤ q * P last → kept ≤ q) (h2 : ∀ q, q * P last ≤ X → q ≤ kept) {k : Nat} {j : Int} (hk : k ≤ 16777216) (hj : -149 ≤ j) :
    (X ≤ k * P j → m' * P e' ≤ k * P j) ∧ (k * P j ≤ X → k * P j ≤ m' * P e') := by
  rw [hv]
  have p23 : P (last + 23) = 8388608 * P last := by rw [show (last + 23 : Int) = last + (23 : Nat) by omega, P_add _ (by omega), Nat.mul_comm]
  by_cases hjl : last ≤ j
  · have e1 : k * P j = k * 2 ^ (j - last).toNat * P last := by
      rw [show P j = P last * 2 ^ (j - last).toNat by rw [← P_add _ (by omega)]; congr 1; omega, Nat.mul_comm (P last), Nat.mul_assoc]
    rw [e1]
    exact ⟨fun h => Nat.mul_le_mul_right _ (h1 _ h), fun h => Nat.mul_le_mul_right _ (h2 _ h)⟩
  · have hl : P (last + 23) ≤ X := by
      rcases hlow with h | h
      · omega
      · exact h
    have k23 : 8388608 ≤ kept := h2 _ (by rw [← p23]; exact hl)
    have kj : k * P j ≤ P (last + 23) := by
      have a1 : k * P j ≤ 16777216 * P j := Nat.mul_le_mul_right _ hk
      have a2 : 16777216 * P j = P (j + 24) := by rw [show (j + 24 : Int) = j + (24 : Nat) by omega, P_add _ (by omega), Nat.mul_comm]
      have a3 : P (j + 24) ≤ P (last + 23) := P_le (by omega)
      omega
    have kk : 8388608 * P last ≤ kept * P last := Nat.mul_le_mul_right _ k23
    refine ⟨fun h => ?_, fun h => by omega⟩
    have hX2 : X ≤ 8388608 * P last := by omega
    have := Nat.mul_le_mul_right (P last) (h1 _ hX2)
    omega

theorem log2_bound {m : Nat} {e : Int} (hm : m ≠ 0) (he : -300 ≤ e) (h : m * P e ≤ P 100) : e + (m.log2 : Int) ≤ 100 := by
  apply Classical.byContradiction
  intro hc
  have h1 := Nat.log2_self_le hm
  have h2 : 2 ^ m.log2 * P e ≤ m * P e := Nat.mul_le_mul_right _ h1
  rw [Nat.mul_comm, ← P_add _ he] at h2
  have h3 : P (100 + ((1 : Nat) : Int)) ≤ P (e + (m.log2 : Nat)) := P_le (by omega)
  have h4 : P (100 + ((1 : Nat) : Int)) = P 100 * 2 ^ 1 := P_add 1 (by omega)
  rw [Nat.pow_one] at h4
  have := P_pos 100
  omega

/-- a number written is that number, rounded -/
theorem write_rd {s : Bool} {m : Nat} {e : Int} (he : -300 ≤ e) (h : m * P e ≤ P 100) : Rd (sg s (m * P e)) (single.write (.number s m e)) := by
  unfold Format.write
  simp only []
  by_cases hm : m = 0
  · have hr : single.read (single.nearest s m e) = .number s 0 (-149) := by
      unfold Format.nearest
      rw [if_pos hm]
      exact read_low s (by omega)
    have hV : V (single.nearest s m e) = 0 := by
      unfold V
      rw [hr]
      unfold vD
      cases s <;> simp [sg]
    have h0 : sg s (m * P e) = 0 := by rw [hm]; cases s <;> simp [sg]
    refine ⟨Fin.of hr, fun z _ => ?_⟩
    rw [hV, h0]
    exact ⟨id, id⟩
  · obtain ⟨last, kept, m', e', l1, hr, l2, hv, hlow, h1, h2⟩ := near_spec s m e hm he (log2_bound hm he h)
    refine ⟨Fin.of hr, fun z hz => ?_⟩
    obtain ⟨k, j, hk, hj, _, hzk⟩ := hz
    obtain ⟨X, hX⟩ : ∃ X, m * P e = X := ⟨_, rfl⟩
    rw [hX] at hlow h1 h2
    obtain ⟨q1, q2⟩ := near_mono l1 hv hlow h1 h2 hk hj
    rw [← hzk] at q1 q2
    have hV : V (single.nearest s m e) = sg s (m' * P e') := by unfold V; rw [hr]; rfl
    rw [hV, hX]
    obtain ⟨Y, hY⟩ : ∃ Y, m' * P e' = Y := ⟨_, rfl⟩
    rw [hY] at q1 q2 ⊢
    cases s
    · rw [sg_false, sg_false]
      constructor
      · intro h
        have := q1 (by omega)
        omega
      · intro h
        by_cases hz0 : z ≤ 0
        · omega
        · have := q2 (by omega)
          omega
    · rw [sg_true, sg_true]
      constructor
      · intro h
        by_cases hz0 : 0 ≤ z
        · omega
        · have := q2 (by omega)
          omega
      · intro h
        have := q1 (by omega)
        omega

/-- the sum, rounded -/
theorem sum_rd {s t : Bool} {m n : Nat} {i j : Int} (hi : -300 ≤ i) (hj : -300 ≤ j) (hb : (sg s (m * P i) + sg t (n * P j)).natAbs ≤ P 100) :
    ∃ d, (Datum.number s m i).sum (.number t n j) = some d ∧ Rd (sg s (m * P i) + sg t (n * P j)) (single.write d) := by
  refine ⟨_, rfl, ?_⟩
  obtain ⟨base, hbase⟩ : ∃ base, min i j = base := ⟨_, rfl⟩
  rw [hbase]
  have e1 : sg s (m * P i) = signed s m (i - base).toNat * (P base : Int) := by
    rw [signed_eq, ← sg_mul, Nat.mul_assoc, Nat.mul_comm (2 ^ _), ← P_add _ (by omega)]
    congr 2
    congr 1
    omega
  have e2 : sg t (n * P j) = signed t n (j - base).toNat * (P base : Int) := by
    rw [signed_eq, ← sg_mul, Nat.mul_assoc, Nat.mul_comm (2 ^ _), ← P_add _ (by omega)]
    congr 2
    congr 1
    omega
  rw [e1, e2, ← Int.add_mul] at hb ⊢
  obtain ⟨T, hT⟩ : ∃ T, signed s m (i - base).toNat + signed t n (j - base).toNat = T := ⟨_, rfl⟩
  rw [hT] at hb ⊢
  have hb' : T.natAbs * P base ≤ P 100 := by rwa [Int.natAbs_mul, Int.natAbs_natCast] at hb
  have h := write_rd (s := if T = 0 then s && t else decide (T < 0)) (m := T.natAbs) (e := base) (by omega) hb'
  have e3 : sg (if T = 0 then s && t else decide (T < 0)) (T.natAbs * P base) = T * (P base : Int) := by
    rw [sg_mul]
    congr 1
    by_cases h0 : T = 0
    · rw [if_pos h0, h0]
      cases (s && t) <;> rfl
    · rw [if_neg h0]
      exact sg_of T
  rw [e3] at h
  exact h

theorem add_rd {x y : Nat} (hx : Fin x) (hy : Fin y) (hb : (V x + V y).natAbs ≤ P 100) : ∃ r, single.add x y = some r ∧ Rd (V x + V y) r := by
  obtain ⟨s, m, i, h1, h2, _⟩ := hx
  obtain ⟨t, n, j, h3, h4, _⟩ := hy
  have e1 : V x = sg s (m * P i) := by unfold V; rw [h1]; rfl
  have e2 : V y = sg t (n * P j) := by unfold V; rw [h3]; rfl
  rw [e1, e2] at hb ⊢
  obtain ⟨d, hd, hr⟩ := sum_rd (by omega) (by omega) hb
  refine ⟨_, ?_, hr⟩
  unfold Format.add
  rw [h1, h3, hd]
  rfl
theorem sub_rd {x y : Nat} (hx : Fin x) (hy : Fin y) (hb : (V x - V y).natAbs ≤ P 100) : ∃ r, single.sub x y = some r ∧ Rd (V x - V y) r := by
  obtain ⟨s, m, i, h1, h2, _⟩ := hx
  obtain ⟨t, n, j, h3, h4, _⟩ := hy
  have e1 : V x = sg s (m * P i) := by unfold V; rw [h1]; rfl
  have e2 : V y = sg t (n * P j) := by unfold V; rw [h3]; rfl
  have e3 : V x - V y = sg s (m * P i) + sg (!t) (n * P j) := by
    rw [e1, e2]
    cases t <;> simp [sg] <;> omega
  rw [e3] at hb ⊢
  obtain ⟨d, hd, hr⟩ := sum_rd (by omega) (by omega) hb
  refine ⟨_, ?_, hr⟩
  unfold Format.sub
  rw [h1, h3, show (Datum.number t n j).opposite = .number (!t) n j from rfl, hd]
  rfl
theorem mul_rd {x y : Nat} (hx : Fin x) (hy : Fin y) (hb : (V x * V y).natAbs ≤ P 100 * P 0) : ∃ r v, single.mul x y = some r ∧ v * (P 0 : Int) = V x * V y ∧ Rd v r := by
  obtain ⟨s, m, i, h1, h2, _⟩ := hx
  obtain ⟨t, n, j, h3, h4, _⟩ := hy
  have e1 : V x = sg s (m * P i) := by unfold V; rw [h1]; rfl
  have e2 : V y = sg t (n * P j) := by unfold V; rw [h3]; rfl
  have e4 : m * n * P (i + j) * P 0 = m * P i * (n * P j) := by
    have : P (i + j) * P 0 = P i * P j := by
      unfold P
      rw [← Nat.pow_add, ← Nat.pow_add]
      congr 1
      omega
    rw [Nat.mul_assoc, this]
    rw [Nat.mul_mul_mul_comm]
  have e3 : sg (s ^^ t) (m * n * P (i + j)) * (P 0 : Int) = V x * V y := by
    rw [← sg_mul, e4, sg_xor, e1, e2]
  refine ⟨_, sg (s ^^ t) (m * n * P (i + j)), ?_, e3, write_rd (by omega) ?_⟩
  · unfold Format.mul
    rw [h1, h3]
    rfl
  · rw [e1, e2, ← sg_xor, sg_abs, ← e4] at hb
    exact Nat.le_of_mul_le_mul_right hb (P_pos 0)

/-- how two words that are numbers stand to each other -/
theorem order_fin {x y : Nat} (hx : Fin x) (hy : Fin y) : single.order x y = some (compare (V x) (V y)) := by
  obtain ⟨s, m, i, h1, h2, _⟩ := hx
  obtain ⟨t, n, j, h3, h4, _⟩ := hy
  have e1 : V x = sg s (m * P i) := by unfold V; rw [h1]; rfl
  have e2 : V y = sg t (n * P j) := by unfold V; rw [h3]; rfl
  unfold Format.order
  rw [h1, h3]
  unfold Datum.order
  simp only []
  obtain ⟨base, hbase⟩ : ∃ base, min i j = base := ⟨_, rfl⟩
  rw [hbase]
  have q1 : V x = signed s m (i - base).toNat * (P base : Int) := by
    rw [e1, signed_eq, ← sg_mul, Nat.mul_assoc, Nat.mul_comm (2 ^ _), ← P_add _ (by omega)]
    congr 2
    congr 1
    omega
  have q2 : V y = signed t n (j - base).toNat * (P base : Int) := by
    rw [e2, signed_eq, ← sg_mul, Nat.mul_assoc, Nat.mul_comm (2 ^ _), ← P_add _ (by omega)]
    congr 2
    congr 1
    omega
  rw [q1, q2]
  obtain ⟨a, ha⟩ : ∃ a, signed s m (i - base).toNat = a := ⟨_, rfl⟩
  obtain ⟨b, hb⟩ : ∃ b, signed t n (j - base).toNat = b := ⟨_, rfl⟩
  rw [ha, hb]
  have hp : 0 < (P base : Int) := by have := P_pos base; omega
  congr 1
  simp only [compare, compareOfLessAndEq]
  have r1 : a < b ↔ a * (P base : Int) < b * (P base : Int) := (Int.mul_lt_mul_right hp).symm
  have r2 : a = b ↔ a * (P base : Int) = b * (P base : Int) := (Int.mul_eq_mul_right_iff (by omega)).symm
  simp only [← r1, ← r2]
theorem order_self {x : Nat} (hx : Fin x) : single.order x x = some .eq := by
  rw [order_fin hx hx]
  simp [compare, compareOfLessAndEq]

/-- whole numbers of at most 24 digits are what they are -/
theorem int_fin (n : Int) (h : n.natAbs ≤ 16777216) : Fin (floatOfInt .f32 n) ∧ V (floatOfInt .f32 n) = n * (P 0 : Int) := by
  have h1 : floatOfInt .f32 n = single.write (.number (decide (n < 0)) n.natAbs 0) := rfl
  have hb : n.natAbs * P 0 ≤ P 100 := by
    have : P 100 = P 0 * 2 ^ 100 := P_add (e := 0) 100 (by omega)
    rw [this, Nat.mul_comm]
    exact Nat.mul_le_mul_left _ (Nat.le_trans h (by decide))
  have h2 := write_rd (s := decide (n < 0)) (m := n.natAbs) (e := 0) (by omega) hb
  rw [sg_mul, sg_of] at h2
  rw [h1]
  exact ⟨h2.1, h2.exact ⟨n.natAbs, 0, h, by omega, by omega, by rw [Int.natAbs_mul, Int.natAbs_natCast]⟩⟩
end Go.Proofs.Ytlbocfinjlkebaa.Flo
