/- Floats of 32 bits that are numbers: what they stand for, as a whole number of units of 2 ^ -300; a sum, a difference, a product is the exact one, rounded; to round passes no number that the format has. Plain Lean. -/
import Derived.Laws.FloatArith
namespace Go.Proofs.Ytlbocfinjlkebaa.Flo
open Ieee

/-- 2 ^ e, in units of 2 ^ -300 -/
def P (e : Int) : Nat := 2 ^ (e + 300).toNat
theorem P_pos (e : Int) : 0 < P e := Nat.two_pow_pos _
theorem P_add {e : Int} (k : Nat) (h : -300 ≤ e) : P (e + k) = P e * 2 ^ k := by
  unfold P
  rw [← Nat.pow_add]
  congr 1
  omega
theorem P_le {a b : Int} (h : a ≤ b) : P a ≤ P b := Nat.pow_le_pow_right (by omega) (by omega)

/-- to cut digits off passes no whole number -/
theorem cut_spec (neg : Bool) (n b q : Nat) : (n ≤ q * 2 ^ b → Toward.even.cut neg n b ≤ q) ∧ (q * 2 ^ b ≤ n → q ≤ Toward.even.cut neg n b) := by
  unfold Toward.cut
  simp only []
  by_cases hb : b ≤ n.log2 + 2
  · rw [Nat.min_eq_left hb, Nat.one_shiftLeft]
    have h0 : 0 < 2 ^ b := Nat.two_pow_pos _
    have h1 := Nat.div_add_mod n (2 ^ b)
    have h2 := Nat.mod_lt n h0
    obtain ⟨G, hG⟩ : ∃ G, 2 ^ b = G := ⟨_, rfl⟩
    rw [hG] at h0 h1 h2 ⊢
    obtain ⟨l, hl⟩ : ∃ l, n / G = l := ⟨_, rfl⟩
    obtain ⟨r, hr⟩ : ∃ r, n % G = r := ⟨_, rfl⟩
    rw [hl, hr] at h1
    rw [hr] at h2
    rw [hl, hr]
    have hm : (decide (G < 2 * r) || G == 2 * r && l % 2 == 1).toNat ≤ 1 := Bool.toNat_le _
    constructor
    · intro h
      by_cases hr0 : r = 0
      · subst hr0
        have hz : (decide (G < 2 * 0) || G == 2 * 0 && l % 2 == 1) = false := by
          have : ¬ G = 0 := by omega
          simp [this]
        rw [hz]
        have : G * l ≤ G * q := by rw [Nat.mul_comm G q]; omega
        exact Nat.le_of_mul_le_mul_left this h0
      · have : G * l < G * q := by rw [Nat.mul_comm G q]; omega
        have := Nat.lt_of_mul_lt_mul_left this
        omega
    · intro h
      have h3 : q < l + 1 := by
        apply Nat.lt_of_mul_lt_mul_left (a := G)
        rw [Nat.mul_add, Nat.mul_comm G q]
        omega
      omega
  · rw [Nat.min_eq_right (by omega), Nat.one_shiftLeft]
    have h1 : n < 2 ^ (n.log2 + 1) := Nat.lt_log2_self
    have h2 : 2 ^ (n.log2 + 2) = 2 * 2 ^ (n.log2 + 1) := by rw [Nat.pow_succ, Nat.mul_comm]
    have h3 : 2 ^ (n.log2 + 2) ≤ 2 ^ b := Nat.pow_le_pow_right (by omega) (by omega)
    have h4 : n < 2 ^ (n.log2 + 2) := by omega
    rw [Nat.div_eq_of_lt h4, Nat.mod_eq_of_lt h4]
    have h5 : (decide (2 ^ (n.log2 + 2) < 2 * n) || 2 ^ (n.log2 + 2) == 2 * n && 0 % 2 == 1) = false := by
      have : ¬ 2 ^ (n.log2 + 2) < 2 * n := by omega
      simp [this]
    rw [h5]
    constructor
    · intro _
      simp
    · intro h
      have : q = 0 := by
        apply Classical.byContradiction
        intro hq
        have : 1 * 2 ^ b ≤ q * 2 ^ b := Nat.mul_le_mul_right _ (by omega)
        omega
      simp [this]

theorem read_low (s : Bool) {r : Nat} (h : r < 8388608) : single.read (single.word s r) = .number s r (-149) := by
  unfold Format.read Format.word
  have e1 : single.signWeight = 2147483648 := rfl
  have e2 : single.binade = 8388608 := rfl
  have e3 : single.leastPlace = -149 := rfl
  rw [e1, e2, e3]
  cases s
  · simp only [Bool.false_eq_true, if_false]
    rw [Nat.mod_eq_of_lt (show r < 2147483648 by omega), if_pos h, Nat.div_eq_of_lt (show r < 2147483648 by omega)]
    rfl
  · simp only [if_true]
    rw [show (2147483648 + r) % 2147483648 = r by omega, if_pos h, show (2147483648 + r) / 2147483648 = 1 by omega]
    rfl
theorem read_high (s : Bool) {r : Nat} (h : 8388608 ≤ r) (h' : r < 2139095040) : single.read (single.word s r) = .number s (8388608 + r % 8388608) (-149 + (r / 8388608 - 1 : Nat)) := by
  unfold Format.read Format.word
  have e1 : single.signWeight = 2147483648 := rfl
  have e2 : single.binade = 8388608 := rfl
  have e3 : single.leastPlace = -149 := rfl
  have e4 : single.infRung = 2139095040 := rfl
  rw [e1, e2, e3, e4]
  cases s
  · simp only [Bool.false_eq_true, if_false]
    rw [Nat.mod_eq_of_lt (show r < 2147483648 by omega), if_neg (by omega), if_pos h', Nat.div_eq_of_lt (show r < 2147483648 by omega)]
    rfl
  · simp only [if_true]
    rw [show (2147483648 + r) % 2147483648 = r by omega, if_neg (by omega), if_pos h', show (2147483648 + r) / 2147483648 = 1 by omega]
    rfl

/-- what the nearest word stands for -/
theorem near_spec (s : Bool) (m : Nat) (e : Int) (hm : m ≠ 0) (he : -300 ≤ e) (hb : e + (m.log2 : Int) ≤ 100) :
    ∃ (last : Int) (kept m' : Nat) (e' : Int), -149 ≤ last ∧ single.read (single.nearest s m e) = .number s m' e' ∧ -149 ≤ e' ∧ m' * P e' = kept * P last ∧ (last = -149 ∨ P (last + 23) ≤ m * P e) ∧
      (∀ q, m * P e ≤ q * P last → kept ≤ q) ∧ (∀ q, q * P last ≤ m * P e → q ≤ kept) := by
  obtain ⟨last, hlast⟩ : ∃ last, max (e + (m.log2 : Int) - 23) (-149) = last := ⟨_, rfl⟩
  have l1 : -149 ≤ last := by omega
  have l2 : e + (m.log2 : Int) ≤ last + 23 := by omega
  have l3 : last = -149 ∨ e + (m.log2 : Int) = last + 23 := by omega
  obtain ⟨kept, hkept⟩ : ∃ kept, Toward.even.cut s (m <<< (e - last).toNat) (last - e).toNat = kept := ⟨_, rfl⟩
  have hk : (∀ q, m * P e ≤ q * P last → kept ≤ q) ∧ (∀ q, q * P last ≤ m * P e → q ≤ kept) := by
    by_cases hel : last ≤ e
    · have h1 : P e = P last * 2 ^ (e - last).toNat := by rw [← P_add _ (by omega)]; congr 1; omega
      have h2 : (last - e).toNat = 0 := by omega
      rw [h2, Nat.shiftLeft_eq] at hkept
      have h3 : m * P e = m * 2 ^ (e - last).toNat * P last := by rw [h1, Nat.mul_comm (P last), Nat.mul_assoc]
      rw [h3]
      refine ⟨fun q hq => ?_, fun q hq => ?_⟩
      · rw [← hkept]
        exact (cut_spec _ _ _ _).1 (by rw [Nat.pow_zero, Nat.mul_one]; exact Nat.le_of_mul_le_mul_right hq (P_pos _))
      · rw [← hkept]
        exact (cut_spec _ _ _ _).2 (by rw [Nat.pow_zero, Nat.mul_one]; exact Nat.le_of_mul_le_mul_right hq (P_pos _))
    · have h1 : P last = P e * 2 ^ (last - e).toNat := by rw [← P_add _ (by omega)]; congr 1; omega
      have h2 : (e - last).toNat = 0 := by omega
      rw [h2, Nat.shiftLeft_zero] at hkept
      have h3 : ∀ q, q * P last = q * 2 ^ (last - e).toNat * P e := fun q => by rw [h1, Nat.mul_comm (P e), Nat.mul_assoc]
      refine ⟨fun q hq => ?_, fun q hq => ?_⟩
      · rw [← hkept]
        rw [h3] at hq
        exact (cut_spec _ _ _ _).1 (Nat.le_of_mul_le_mul_right hq (P_pos _))
      · rw [← hkept]
        rw [h3] at hq
        exact (cut_spec _ _ _ _).2 (Nat.le_of_mul_le_mul_right hq (P_pos _))
  have hup : m * P e ≤ 16777216 * P last := by
    have h1 : m < 2 ^ (m.log2 + 1) := Nat.lt_log2_self
    have h2 : m * P e ≤ 2 ^ (m.log2 + 1) * P e := Nat.mul_le_mul_right _ (by omega)
    rw [Nat.mul_comm (2 ^ _), ← P_add _ he] at h2
    rw [show (16777216 : Nat) = 2 ^ 24 from rfl, Nat.mul_comm (2 ^ 24), ← P_add _ (by omega)]
    exact Nat.le_trans h2 (P_le (by omega))
  have k24 : kept ≤ 16777216 := hk.1 _ hup
  have hlow : last = -149 ∨ P (last + 23) ≤ m * P e := by
    rcases l3 with h | h
    · exact .inl h
    · refine .inr ?_
      rw [← h, P_add _ he, Nat.mul_comm]
      exact Nat.mul_le_mul_right _ (Nat.log2_self_le hm)
  have k23 : last = -149 ∨ 8388608 ≤ kept := by
    rcases hlow with h | h
    · exact .inl h
    · refine .inr (hk.2 _ ?_)
      rw [show (8388608 : Nat) = 2 ^ 23 from rfl, Nat.mul_comm, ← P_add _ (by omega)]
      exact h
  obtain ⟨t, ht⟩ : ∃ t : Nat, (last + 149).toNat = t := ⟨_, rfl⟩
  have hn : single.nearest s m e = single.word s (t * 8388608 + kept) := by
    unfold Format.nearest
    rw [if_neg hm]
    have e2 : single.binade = 8388608 := rfl
    have e3 : single.leastPlace = -149 := rfl
    have e4 : single.infRung = 2139095040 := rfl
    have e5 : ((single.fractionBits : Nat) : Int) = 23 := rfl
    simp only [e2, e3, e4, e5, hlast, hkept]
    rw [show (last - -149).toNat = t by omega, Nat.min_eq_left (by omega)]
  rw [hn]
  by_cases c1 : t * 8388608 + kept < 8388608
  · have t0 : t = 0 := by omega
    have hl : last = -149 := by omega
    rw [read_low s c1]
    exact ⟨last, kept, _, _, l1, rfl, by omega, by rw [t0, hl]; simp, hlow, hk⟩
  · rw [read_high s (by omega) (by omega)]
    by_cases c2 : kept = 16777216
    · refine ⟨last, kept, _, _, l1, rfl, by omega, ?_, hlow, hk⟩
      rw [show (t * 8388608 + kept) % 8388608 = 0 by omega, show (t * 8388608 + kept) / 8388608 - 1 = t + 1 by omega]
      rw [show (-149 : Int) + ((t + 1 : Nat) : Int) = last + (1 : Nat) by omega, P_add _ (by omega), c2]
      omega
    · have c3 : 8388608 ≤ kept := by omega
      refine ⟨last, kept, _, _, l1, rfl, by omega, ?_, hlow, hk⟩
      rw [show (t * 8388608 + kept) % 8388608 = kept - 8388608 by omega, show (t * 8388608 + kept) / 8388608 - 1 = t by omega]
      rw [show (-149 : Int) + (t : Int) = last by omega, show 8388608 + (kept - 8388608) = kept by omega]
end Go.Proofs.Ytlbocfinjlkebaa.Flo
