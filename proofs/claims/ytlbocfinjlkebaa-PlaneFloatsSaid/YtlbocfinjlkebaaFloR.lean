/- The order of floats that are numbers or infinities: by rank. Plain Lean. -/
import Derived.Test.YtlbocfinjlkebaaFloV
import Derived.Test.YtlbocfinjlkebaaPlanePFr
namespace Go.Proofs.Ytlbocfinjlkebaa.Flo
open Ieee

/-- a rank: numbers by their values, the infinities beyond them -/
def K (x : Nat) : Int := match single.read x with
  | .number s m e => sg s (m * P e)
  | .infinity s => sg s (P 400)
  | .nan .. => 0
/-- no number at all -/
def isNan (x : Nat) : Bool := (single.read x).isNaN
theorem num_below {x : Nat} {s : Bool} {m : Nat} {e : Int} (h : single.read x = .number s m e) : m * P e < P 400 := by
  obtain ⟨h1, h2, h3⟩ := fin_read h
  have h4 : m * P e ≤ 16777216 * P 104 := Nat.mul_le_mul h2 (P_le h3)
  have h5 : P (104 + ((25 : Nat) : Int)) = P 104 * 2 ^ 25 := P_add 25 (by omega)
  have h6 : P (104 + ((25 : Nat) : Int)) ≤ P 400 := P_le (by omega)
  have h7 := P_pos 104
  rw [h5, show 2 ^ 25 = 33554432 from rfl] at h6
  omega
theorem compare_int (a b : Int) : compare a b = if a < b then .lt else if a = b then .eq else .gt := rfl
theorem order_rank {x y : Nat} (hx : isNan x = false) (hy : isNan y = false) : single.order x y = some (compare (K x) (K y)) := by
  unfold isNan at hx hy
  have big : (0 : Int) < (P 400 : Int) := by have := P_pos 400; omega
  cases h1 : single.read x with
  | nan s f => rw [h1] at hx; simp [Datum.isNaN] at hx
  | number s m e =>
    cases h2 : single.read y with
    | nan s f => rw [h2] at hy; simp [Datum.isNaN] at hy
    | number t n j =>
      have e1 : K x = V x := by unfold K V; rw [h1]; rfl
      have e2 : K y = V y := by unfold K V; rw [h2]; rfl
      rw [e1, e2]
      exact order_fin (Fin.of h1) (Fin.of h2)
    | infinity t =>
      have e1 : K x = sg s (m * P e) := by unfold K; rw [h1]
      have e2 : K y = sg t (P 400) := by unfold K; rw [h2]
      have b := num_below h1
      unfold Format.order
      rw [h1, h2, e1, e2, compare_int]
      obtain ⟨B, hB⟩ : ∃ B, P 400 = B := ⟨_, rfl⟩
      obtain ⟨N, hN⟩ : ∃ N, m * P e = N := ⟨_, rfl⟩
      rw [hB] at big b ⊢
      rw [hN] at b ⊢
      cases s <;> cases t <;> simp only [Datum.order, sg, if_true, if_false, Bool.false_eq_true] <;> (first | (rw [if_pos (by omega)]) | (rw [if_neg (by omega), if_neg (by omega)]))
  | infinity s =>
    cases h2 : single.read y with
    | nan s f => rw [h2] at hy; simp [Datum.isNaN] at hy
    | number t n j =>
      have e1 : K x = sg s (P 400) := by unfold K; rw [h1]
      have e2 : K y = sg t (n * P j) := by unfold K; rw [h2]
      have b := num_below h2
      unfold Format.order
      rw [h1, h2, e1, e2, compare_int]
      obtain ⟨B, hB⟩ : ∃ B, P 400 = B := ⟨_, rfl⟩
      obtain ⟨N, hN⟩ : ∃ N, n * P j = N := ⟨_, rfl⟩
      rw [hB] at big b ⊢
      rw [hN] at b ⊢
      cases s <;> cases t <;> simp only [Datum.order, sg, if_true, if_false, Bool.false_eq_true] <;> (first | (rw [if_pos (by omega)]) | (rw [if_neg (by omega), if_neg (by omega)]))
    | infinity t =>
      have e1 : K x = sg s (P 400) := by unfold K; rw [h1]
      have e2 : K y = sg t (P 400) := by unfold K; rw [h2]
      unfold Format.order
      rw [h1, h2, e1, e2, compare_int]
      obtain ⟨B, hB⟩ : ∃ B, P 400 = B := ⟨_, rfl⟩
      rw [hB] at big ⊢
      cases s <;> cases t <;> simp only [Datum.order, sg, if_true, if_false, Bool.false_eq_true] <;> (first | (simp; done) | (rw [if_pos (by omega)]; rfl) | (rw [if_neg (by omega), if_pos (by omega)]; rfl) | (rw [if_neg (by omega), if_neg (by omega)]; rfl))
theorem order_nan {x y : Nat} (h : isNan x = true) : single.order x y = none := by
  unfold isNan at h
  unfold Format.order
  cases h1 : single.read x with
  | nan s f => rfl
  | number s m e => rw [h1] at h; simp [Datum.isNaN] at h
  | infinity s => rw [h1] at h; simp [Datum.isNaN] at h
theorem eqE_self (v : Nat) : PF.eqE v v = !isNan v := by
  unfold PF.eqE
  show (single.order v v == some .eq) = _
  cases h : isNan v with
  | true => rw [order_nan h]; rfl
  | false => rw [order_rank h h, compare_int, if_neg (by omega), if_pos rfl]; rfl
theorem ltE_iff {a b : Nat} (ha : isNan a = false) (hb : isNan b = false) : PF.ltE a b = decide (K a < K b) := by
  unfold PF.ltE
  show (single.order a b == some .lt) = _
  rw [order_rank ha hb, compare_int]
  split
  · rename_i h; simp [h]
  · rename_i h; split <;> simp [h]
theorem gtE_iff {a b : Nat} (ha : isNan a = false) (hb : isNan b = false) : PF.gtE a b = decide (K b < K a) := by
  unfold PF.gtE
  show (single.order a b == some .gt) = _
  rw [order_rank ha hb, compare_int]
  split
  · rename_i h; simp; omega
  · rename_i h
    split
    · rename_i h2; simp; omega
    · rename_i h2; simp; omega

/-- the law's own count, least and most: one sample more -/
def lawE (s : Nat × Nat × Nat) (v : Nat) : Nat × Nat × Nat :=
  if PF.eqE v v then (s.1 + 1, if s.1 = 0 ∨ PF.ltE v s.2.1 = true then v else s.2.1, if s.1 = 0 ∨ PF.gtE v s.2.2 = true then v else s.2.2) else s
def lawL (zs : List Nat) : Nat × Nat × Nat := zs.foldl lawE (0, 0, 0)
/-- what the law counts is what Ends says -/
def Agree (a : Nat × Nat × Nat) (b : Nat × Nat × Bool) : Prop :=
  b.1 = a.2.1 ∧ b.2.1 = a.2.2 ∧ b.2.2 = decide (0 < a.1) ∧ (0 < a.1 → isNan a.2.1 = false ∧ isNan a.2.2 = false ∧ K a.2.1 ≤ K a.2.2)
theorem agree_step {a : Nat × Nat × Nat} {b : Nat × Nat × Bool} (h : Agree a b) (v : Nat) : Agree (lawE a v) (PF.endS b v) := by
  obtain ⟨c, l, m⟩ := a
  obtain ⟨l', m', ok⟩ := b
  obtain ⟨h1, h2, h3, h4⟩ := h
  simp only at h1 h2 h3 h4
  subst h1 h2 h3
  unfold lawE PF.endS
  rw [eqE_self]
  cases hv : isNan v with
  | true => exact ⟨rfl, rfl, rfl, h4⟩
  | false =>
    simp only [Bool.not_false, if_true]
    by_cases hc : c = 0
    · subst hc
      simp only [true_or, if_true]
      exact ⟨rfl, rfl, rfl, fun _ => ⟨hv, hv, Int.le_refl _⟩⟩
    · have hc2 : decide (0 < c) = true := by simp; omega
      obtain ⟨q1, q2, q3⟩ := h4 (by omega)
      rw [hc2]
      simp only [hc, false_or, if_true]
      rw [ltE_iff hv q1, gtE_iff hv q2]
      by_cases c1 : K v < K l'
      · have c2 : ¬ K m' < K v := by omega
        simp only [c1, c2, decide_true, decide_false, if_true, if_false, Bool.false_eq_true]
        exact ⟨rfl, rfl, by simp, fun _ => ⟨hv, q2, by show K v ≤ K m'; omega⟩⟩
      · by_cases c2 : K m' < K v
        · simp only [c1, c2, decide_true, decide_false, if_true, if_false, Bool.false_eq_true]
          exact ⟨rfl, rfl, by simp, fun _ => ⟨q1, hv, by show K l' ≤ K v; omega⟩⟩
        · simp only [c1, c2, decide_false, if_false, Bool.false_eq_true]
          exact ⟨rfl, rfl, by simp, fun _ => ⟨q1, q2, q3⟩⟩
theorem agree_all (zs : List Nat) : Agree (lawL zs) (PF.endsL zs) := by
  unfold lawL PF.endsL
  have h0 : Agree (0, 0, 0) (0, 0, false) := ⟨rfl, rfl, rfl, fun h => absurd h (by simp)⟩
  revert h0
  generalize ((0, 0, 0) : Nat × Nat × Nat) = a
  generalize ((0, 0, false) : Nat × Nat × Bool) = b
  intro h0
  induction zs generalizing a b with
  | nil => exact h0
  | cons v l ih => exact ih _ _ (agree_step h0 v)
theorem eqL_self : ∀ zs : List Nat, PF.eqL zs zs = zs.all (fun v => PF.eqE v v)
  | [] => rfl
  | v :: l => by simp [PF.eqL, eqL_self l]
end Go.Proofs.Ytlbocfinjlkebaa.Flo
