/- A number on the straight line between two: never beyond them, however it is rounded. Plain Lean. -/
import Derived.Test.YtlbocfinjlkebaaFloV
namespace Go.Proofs.Ytlbocfinjlkebaa.Flo
open Ieee

/-- d is D, rounded -/
def Ro (D d : Int) : Prop := Rep d ∧ ∀ z, Rep z → (D ≤ z → d ≤ z) ∧ (z ≤ D → z ≤ d)
theorem Rd.ro {v : Int} {r : Nat} (h : Rd v r) : Ro v (V r) := ⟨rep_of_fin h.1, h.2⟩
theorem Ro.neg {D d : Int} (h : Ro D d) : Ro (-D) (-d) := by
  refine ⟨h.1.neg, fun z hz => ?_⟩
  have h1 := h.2 (-z) hz.neg
  constructor
  · intro hh
    have := h1.2 (by omega)
    omega
  · intro hh
    have := h1.1 (by omega)
    omega
theorem rep_nat {k : Nat} {j : Int} (h : k ≤ 16777216) (h1 : -149 ≤ j) (h2 : j ≤ 104) : Rep ((k * P j : Nat) : Int) := ⟨k, j, h, h1, h2, by rw [Int.natAbs_natCast]⟩
theorem fin_dvd {x : Nat} (h : Fin x) : ∃ q : Int, V x = q * (P (-149) : Int) := by
  obtain ⟨s, m, e, h, h1, _⟩ := h
  refine ⟨sg s (m * 2 ^ (e + 149).toNat), ?_⟩
  have e1 : V x = sg s (m * P e) := by unfold V; rw [h]; rfl
  rw [e1, ← sg_mul, Nat.mul_assoc, Nat.mul_comm (2 ^ _), ← P_add _ (by omega)]
  congr 2
  congr 1
  omega
/-- to the right -/
theorem mix_up {D d v p S : Int} {q : Nat} (hD : D = ((q * P (-149) : Nat) : Int)) (hq : q < 2 ^ 200) (hd : Ro D d) (hS : 0 ≤ S) (hS8 : 8 * S ≤ 7 * (P 0 : Int)) (hv : v * (P 0 : Int) = d * S) (hp : Ro v p) : 0 ≤ p ∧ p ≤ D := by
  have h0 : 0 < (P 0 : Int) := by have := P_pos 0; omega
  have D0 : 0 ≤ D := by rw [hD]; omega
  have d0 : 0 ≤ d := (hd.2 0 rep_zero).2 D0
  have v8 : 8 * v ≤ 7 * d := by
    apply Int.le_of_mul_le_mul_right _ h0
    rw [Int.mul_assoc, hv, Int.mul_assoc, Int.mul_left_comm 8, Int.mul_left_comm 7]
    exact Int.mul_le_mul_of_nonneg_left hS8 d0
  have v0 : 0 ≤ v := by
    apply Classical.byContradiction
    intro hc
    have h1 : v * (P 0 : Int) < 0 := Int.mul_neg_of_neg_of_pos (by omega) h0
    have h2 : 0 ≤ d * S := Int.mul_nonneg d0 hS
    omega
  refine ⟨(hp.2 0 rep_zero).2 v0, ?_⟩
  by_cases hq8 : q < 16777216
  · have hr : Rep D := by rw [hD]; exact rep_nat (by omega) (by omega) (by omega)
    have h1 := (hd.2 D hr).1 (Int.le_refl _)
    exact (hp.2 D hr).1 (by omega)
  · have l1 : 2 ^ q.log2 ≤ q := Nat.log2_self_le (by omega)
    have l2 : q < 2 ^ (q.log2 + 1) := Nat.lt_log2_self
    have l3 : 3 ≤ q.log2 := by
      apply Classical.byContradiction
      intro hc
      have : 2 ^ (q.log2 + 1) ≤ 2 ^ 3 := Nat.pow_le_pow_right (by omega) (by omega)
      omega
    have l4 : q.log2 < 200 := by
      apply Classical.byContradiction
      intro hc
      have : 2 ^ 200 ≤ 2 ^ q.log2 := Nat.pow_le_pow_right (by omega) (by omega)
      omega
    obtain ⟨t, ht⟩ : ∃ t, q.log2 - 3 = t := ⟨_, rfl⟩
    have e1 : 2 ^ q.log2 = 8 * 2 ^ t := by rw [show q.log2 = 3 + t by omega, Nat.pow_add]
    have e2 : 2 ^ (q.log2 + 1) = 16 * 2 ^ t := by rw [show q.log2 + 1 = 4 + t by omega, Nat.pow_add]
    rw [e1] at l1
    rw [e2] at l2
    have hg : 0 < 2 ^ t := Nat.two_pow_pos t
    have pj : P (-149 + (t : Int)) = P (-149) * 2 ^ t := P_add t (by omega)
    obtain ⟨G, hG⟩ : ∃ G, 2 ^ t = G := ⟨_, rfl⟩
    rw [hG] at l1 l2 hg pj
    have k1 := Nat.div_add_mod q G
    have k2 := Nat.mod_lt q hg
    obtain ⟨k, hk⟩ : ∃ k, q / G = k := ⟨_, rfl⟩
    rw [hk] at k1
    have k3 : 8 ≤ k := by rw [← hk]; exact (Nat.le_div_iff_mul_le hg).2 l1
    have k4 : k < 16 := by rw [← hk]; exact (Nat.div_lt_iff_lt_mul hg).2 l2
    obtain ⟨U, hU⟩ : ∃ U, P (-149 + (t : Int)) = U := ⟨_, rfl⟩
    have r1 : Rep ((k * U : Nat) : Int) := by rw [← hU]; exact rep_nat (by omega) (by omega) (by omega)
    have r2 : Rep (((k + 1) * U : Nat) : Int) := by rw [← hU]; exact rep_nat (by omega) (by omega) (by omega)
    rw [hU] at pj
    have b1 : k * U ≤ q * P (-149) := by
      rw [pj, Nat.mul_comm (P _), ← Nat.mul_assoc]
      exact Nat.mul_le_mul_right _ (by rw [Nat.mul_comm]; omega)
    have b2 : q * P (-149) ≤ (k + 1) * U := by
      rw [pj, Nat.mul_comm (P _), ← Nat.mul_assoc]
      exact Nat.mul_le_mul_right _ (by rw [Nat.add_mul, Nat.one_mul, Nat.mul_comm]; omega)
    have h1 := (hd.2 _ r2).1 (by rw [hD]; omega)
    have h2 := (hp.2 _ r1).1 (by
      have h3 : 7 * (k + 1) * U ≤ 8 * k * U := Nat.mul_le_mul_right _ (by omega)
      rw [Nat.mul_assoc, Nat.mul_assoc] at h3
      omega)
    rw [hD]
    omega
/-- the number on the line from a to b: the steps, each rounded -/
def mixB (a b s : Nat) : Nat :=
  (single.add a ((single.mul ((single.sub b a).getD 0) s).getD 0)).getD 0
/-- a part of the way -/
structure Part (s : Nat) : Prop where
  fin : Fin s
  nonneg : 0 ≤ V s
  less : 8 * V s ≤ 7 * (P 0 : Int)
/-- a number between two -/
structure Amid (lo hi : Int) (a : Nat) : Prop where
  fin : Fin a
  from_ : lo * (P 0 : Int) ≤ V a
  to_ : V a ≤ hi * (P 0 : Int)

theorem P100 : P 100 = P 0 * 2 ^ 100 := P_add (e := 0) 100 (by omega)
theorem P0_eq : P 0 = P (-149) * 2 ^ 149 := (congrArg P (show (0 : Int) = -149 + ((149 : Nat) : Int) by omega)).trans (P_add 149 (by omega))
theorem rep_byte {n : Int} (h : 0 ≤ n) (h' : n ≤ 255) : Rep (n * (P 0 : Int)) := by
  obtain ⟨k, rfl⟩ := Int.eq_ofNat_of_zero_le h
  rw [← Int.natCast_mul]
  exact rep_nat (by omega) (by omega) (by omega)

theorem mix_amid {a b s : Nat} {lo hi : Int} (h0 : 0 ≤ lo) (h255 : hi ≤ 255) (ha : Amid lo hi a) (hb : Amid lo hi b) (hs : Part s) :
    ∃ d p, single.sub b a = some d ∧ single.mul d s = some p ∧ single.add a p = some (mixB a b s) ∧ Amid lo hi (mixB a b s) := by
  have p0 : 0 < (P 0 : Int) := by have := P_pos 0; omega
  have hlohi : lo * (P 0 : Int) ≤ hi * (P 0 : Int) := Int.le_trans ha.from_ ha.to_
  have hlh : lo ≤ hi := Int.le_of_mul_le_mul_right hlohi p0
  have b0 : 0 ≤ lo * (P 0 : Int) := Int.mul_nonneg h0 (by omega)
  have b255 : hi * (P 0 : Int) ≤ 255 * (P 0 : Int) := Int.mul_le_mul_of_nonneg_right h255 (by omega)
  have rlo : Rep (lo * (P 0 : Int)) := rep_byte h0 (by omega)
  have rhi : Rep (hi * (P 0 : Int)) := rep_byte (by omega) h255
  have r255 : Rep (255 * (P 0 : Int)) := rep_byte (by omega) (by omega)
  have a1 := ha.from_
  have a2 := ha.to_
  have b1 := hb.from_
  have b2 := hb.to_
  obtain ⟨qa, hqa⟩ := fin_dvd ha.fin
  obtain ⟨qb, hqb⟩ := fin_dvd hb.fin
  have big : 510 * P 0 ≤ P 100 := by
    rw [P100, Nat.mul_comm]
    exact Nat.mul_le_mul_left _ (by decide)
  have big2 : 255 * P 0 * P 0 ≤ P 100 * P 0 := Nat.mul_le_mul_right _ (by omega)
  obtain ⟨d, hd, rd⟩ := sub_rd hb.fin ha.fin (by omega)
  have d1 := (rd.2 _ r255).1 (by omega)
  have d2 := (rd.2 _ r255.neg).2 (by omega)
  have s1 := hs.nonneg
  have s2 := hs.less
  have hms : (V d * V s).natAbs ≤ P 100 * P 0 := by
    rw [Int.natAbs_mul]
    refine Nat.le_trans (Nat.mul_le_mul (show (V d).natAbs ≤ 255 * P 0 by omega) (show (V s).natAbs ≤ P 0 by omega)) big2
  obtain ⟨p, v, hp, hv, rp⟩ := mul_rd rd.1 hs.fin hms
  have hDq : V b - V a = (qb - qa) * (P (-149) : Int) := by rw [hqa, hqb, Int.sub_mul]
  have p149 : 0 < (P (-149) : Int) := by have := P_pos (-149); omega
  have qbound : (qb - qa).natAbs < 2 ^ 200 := by
    have h1 : (V b - V a).natAbs ≤ 255 * P 0 := by omega
    rw [hDq, Int.natAbs_mul, Int.natAbs_natCast, P0_eq, Nat.mul_comm (P (-149)), ← Nat.mul_assoc] at h1
    have h2 := Nat.le_of_mul_le_mul_right h1 (P_pos (-149))
    exact Nat.lt_of_le_of_lt h2 (by decide)
  have key : lo * (P 0 : Int) ≤ V a + V p ∧ V a + V p ≤ hi * (P 0 : Int) := by
    by_cases hD : 0 ≤ qb - qa
    · obtain ⟨q, hq⟩ := Int.eq_ofNat_of_zero_le hD
      rw [hq] at hDq qbound
      rw [← Int.natCast_mul] at hDq
      have := mix_up hDq qbound rd.ro s1 s2 hv rp.ro
      omega
    · obtain ⟨q, hq⟩ := Int.eq_ofNat_of_zero_le (show 0 ≤ -(qb - qa) by omega)
      have hDq' : -(V b - V a) = ((q * P (-149) : Nat) : Int) := by rw [hDq, ← Int.neg_mul, hq, Int.natCast_mul]
      have := mix_up hDq' (by omega) rd.ro.neg s1 s2 (by rw [Int.neg_mul, hv, Int.neg_mul]) rp.ro.neg
      omega
  obtain ⟨r, hr, rr⟩ := add_rd ha.fin rp.1 (by omega)
  have hmix : mixB a b s = r := by
    unfold mixB
    rw [hd]
    simp only [Option.getD_some]
    rw [hp]
    simp only [Option.getD_some]
    rw [hr]
    rfl
  rw [hmix]
  exact ⟨d, p, hd, hp, hr, rr.1, (rr.2 _ rlo).2 key.1, (rr.2 _ rhi).1 key.2⟩
/-- a byte as a float -/
theorem byte_amid {n lo hi : Int} (h0 : 0 ≤ lo) (h255 : hi ≤ 255) (h1 : lo ≤ n) (h2 : n ≤ hi) : Amid lo hi (floatOfInt .f32 n) := by
  obtain ⟨a, b⟩ := int_fin n (by omega)
  have p0 : 0 ≤ (P 0 : Int) := by omega
  exact ⟨a, by rw [b]; exact Int.mul_le_mul_of_nonneg_right h1 p0, by rw [b]; exact Int.mul_le_mul_of_nonneg_right h2 p0⟩

/-- how much of the way: f is a factor, r what is left -/
def partB (r f : Nat) : Bool := match single.div (floatOfInt .f32 r) (floatOfInt .f32 ((2 * f : Nat) : Int)) with
  | some q => (match single.read q with
    | .number s m e => decide (0 ≤ sg s (m * P e)) && decide (8 * sg s (m * P e) ≤ 7 * (P 0 : Int))
    | _ => false)
  | none => false
theorem part_all : ∀ f, f < 5 → ∀ r, r < 2 * f → partB r f = true := by decide +kernel
theorem part_ok {r f : Nat} (h : partB r f = true) : ∃ q, single.div (floatOfInt .f32 r) (floatOfInt .f32 ((2 * f : Nat) : Int)) = some q ∧ Part q := by
  unfold partB at h
  split at h
  · rename_i q hq
    refine ⟨q, hq, ?_⟩
    split at h
    · rename_i s m e hr
      have hV : V q = sg s (m * P e) := by unfold V; rw [hr]; rfl
      simp only [Bool.and_eq_true, decide_eq_true_eq] at h
      exact ⟨Fin.of hr, by rw [hV]; exact h.1, by rw [hV]; exact h.2⟩
    · cases h
  · cases h

/-- the sample ahead of a place of the larger plane -/
def wayI (x f : Nat) : Int := (2 * (x : Int) + 1 - f) / (2 * (f : Int))
/-- what is left of the way -/
def wayR (x f : Nat) : Nat := ((2 * (x : Int) + 1 - f) % (2 * (f : Int))).toNat
/-- how much of the way to the next one it is -/
def wayS (x f : Nat) : Nat := (single.div (floatOfInt .f32 (wayR x f)) (floatOfInt .f32 ((2 * f : Nat) : Int))).getD 0
theorem wayR_lt {x f : Nat} (h : 1 ≤ f) : wayR x f < 2 * f := by
  unfold wayR
  have h1 := Int.emod_nonneg (2 * (x : Int) + 1 - f) (show 2 * (f : Int) ≠ 0 by omega)
  have h2 := Int.emod_lt_of_pos (2 * (x : Int) + 1 - f) (show 0 < 2 * (f : Int) by omega)
  omega
theorem way_eq {x f : Nat} (h : 1 ≤ f) : (2 * (x : Int) + 1 - f) - 2 * (f : Int) * wayI x f = wayR x f := by
  unfold wayR wayI
  have h1 := Int.emod_nonneg (2 * (x : Int) + 1 - f) (show 2 * (f : Int) ≠ 0 by omega)
  have h3 := Int.mul_ediv_add_emod (2 * (x : Int) + 1 - f) (2 * (f : Int))
  omega
theorem wayS_ok {x f : Nat} (h : 1 ≤ f) (h4 : f ≤ 4) : single.div (floatOfInt .f32 (wayR x f)) (floatOfInt .f32 ((2 * f : Nat) : Int)) = some (wayS x f) ∧ Part (wayS x f) := by
  obtain ⟨q, h1, h2⟩ := part_ok (part_all f (by omega) (wayR x f) (wayR_lt h))
  have : wayS x f = q := by unfold wayS; rw [h1]; rfl
  rw [this]
  exact ⟨h1, h2⟩
end Go.Proofs.Ytlbocfinjlkebaa.Flo
