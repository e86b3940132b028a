/- What Lay makes of the samples, row by row, in plain words; and what stands at a place behind it. -/
import Derived.Laws.CopyOwn
import Derived.Test.YtlbocfinjlkebaaPlaneDef
namespace Go.Proofs.Ytlbocfinjlkebaa
open Go.RowKit

/-- k rows are laid, from row j0 on: n samples each, at column L; row j is cut out of ys at place s j -/
def layK (W L n : Nat) (s : Nat → Nat) (ys : List Value) (j0 : Nat) (xs : List Value) : Nat → List Value
  | 0 => xs
  | k + 1 => splice (layK W L n s ys j0 xs k) ((j0 + k) * W + L) ((ys.drop (s (j0 + k))).take n)

def layLeft (x : Int) : Nat := (max x 0).toNat
def layRight (x : Int) (W W' : Nat) : Nat := (min (x + W') W).toNat
def layAt (W' : Nat) (x y : Int) (j : Nat) : Nat := ((j : Int) - y).toNat * W' + ((layLeft x : Int) - x).toNat
def layL (W H W' H' : Nat) (x y : Int) (xs ys : List Value) : List Value :=
  layK W (layLeft x) (layRight x W W' - layLeft x) (layAt W' x y) ys (layLeft y) xs (layRight y H H' - layLeft y)

theorem layK_length {W L n : Nat} {s : Nat → Nat} {ys xs : List Value} {j0 : Nat} : ∀ k, (∀ j, j < k → (j0 + j) * W + L + n ≤ xs.length ∧ s (j0 + j) + n ≤ ys.length) → (layK W L n s ys j0 xs k).length = xs.length
  | 0, _ => rfl
  | k + 1, h => by
    have ih := layK_length k (fun j hj => h j (by omega))
    obtain ⟨h1, h2⟩ := h k (by omega)
    rw [layK, length_splice, ih]
    rw [ih, List.length_take, List.length_drop]
    omega

theorem splice_getElem? (L : List Value) (off : Nat) (cs : List Value) (i : Nat) (h : off + cs.length ≤ L.length) :
    (splice L off cs)[i]? = if off ≤ i ∧ i < off + cs.length then cs[i - off]? else L[i]? := by
  unfold splice
  rw [List.getElem?_append, List.length_take]
  by_cases h1 : i < off
  · rw [if_pos (by omega), if_neg (by omega), List.getElem?_take, if_pos h1]
  · rw [if_neg (by omega), List.getElem?_append]
    have e : min off L.length = off := by omega
    rw [e]
    by_cases h2 : i < off + cs.length
    · rw [if_pos (by omega), if_pos (by omega)]
    · rw [if_neg (by omega), if_neg (by omega), List.getElem?_drop]
      congr 1
      omega

theorem take_splice (L : List Value) (off N : Nat) (cs : List Value) (h : off + cs.length ≤ N) (hN : N ≤ L.length) : (L.take off ++ (cs ++ L.drop (off + cs.length))).take N = splice (L.take N) off cs := by
  show (splice L off cs).take N = _
  apply List.ext_getElem?
  intro i
  rw [List.getElem?_take, splice_getElem? L off cs i (by omega), splice_getElem? _ off cs i (by rw [List.length_take]; omega), List.getElem?_take]
  by_cases h1 : i < N
  · rw [if_pos h1, if_pos h1]
  · rw [if_neg h1, if_neg h1, if_neg (by omega)]

/-- cells laid into a plane's row -/
theorem PlaneAt.lay {tp te : TypeId} {w : World} {b g W H c : Nat} {xs : List Value} (h : PlaneAt tp te w b g W H c xs) (off : Nat) (cs : List Value) (hfit : off + cs.length ≤ W * H) :
    ∃ cur : Array Value, Blk w g te cur ∧ cur.size = c ∧ PlaneAt tp te (w.setRow g (cur.toList.take off ++ (cs ++ cur.toList.drop (off + cs.length))).toArray) b g W H c (splice xs off cs) := by
  obtain ⟨cur, k, hs, rfl⟩ := h.row
  have hcap := h.cap
  refine ⟨cur, k, hs, (setRow_other w g b _ h.ne).trans h.blk, ⟨_, setRow_heap w g _ _ te (0, 0) k, ?_, ?_⟩, h.ne, h.wide, h.high, h.size, h.cap, h.most⟩
  · simp; omega
  · rw [List.toList_toArray]
    exact take_splice _ _ _ _ hfit (by simp; omega)

theorem wp_copy_row {P : Program} {o : Oper} {a : Act} {w : World} {K : Act → World → Prop} {Q : Exit → Act → World → Prop} (d s : Operand) (dT sT : TypeId)
    (ho : o.op = .call { callee := .builtin .copy, args := #[d, s], argTypes := #[dT, sT] }) (elem : TypeId) (hu : P.underlying dT = some (.slice elem)) (hsz : (P.info? elem).map (·.size) = some 1)
    (g off dLen dCap : Nat) (ad : Addr) (sLen sCap : Nat) (hd : a.eval d = .slice (some ⟨g, off, none⟩) dLen dCap) (hs : a.eval s = .slice (some ad) sLen sCap)
    (cur : Array Value) (t : TypeId) (hg : w.heap[g]? = some (.cells cur t (0, 0))) (cs : List Value) (hn : cs.length = Nat.min sLen dLen)
    (hsrc : ∀ j v, cs[j]? = some v → w.cell? (ad.add j) = some v) (hfit : off + cs.length ≤ cur.size) (h1 : ∀ v ∈ cs, v.oneCell' = true)
    (h : K (a.put o.dst (goInt cs.length)) (w.setRow g (cur.toList.take off ++ (cs ++ cur.toList.drop (off + cs.length))).toArray)) : o.wp P a w K Q := by
  have hrun := run_copy_row (P := P) w dT sT o.type elem g off dLen dCap ad sLen sCap cur t cs hu hsz hg hn hsrc hfit h1
  unfold Oper.wp
  simp [execOp, ho, resolve, invoke, builtin, hd, hs, hrun, Result.andThen]
  exact h
theorem grown_setRow {a w : World} {g : Nat} (h : a.grownBy w (some g)) (cs : Array Value) : a.grownBy (w.setRow g cs) (some g) :=
  ⟨h.os, h.tape, h.output, by simpa using h.size, fun k hk hne => (setRow_other w g k cs (fun e => hne (by rw [e]))).trans (h.block k hk hne)⟩

/-- the numbers of Lay, in one direction -/
theorem lay_side {x : Int} {W W' : Nat} (hW : 1 ≤ W) (hW' : 1 ≤ W') (hx : x < W) (hx2 : -(W' : Int) < x) :
    layLeft x < layRight x W W' ∧ layRight x W W' ≤ W ∧ 0 ≤ (layLeft x : Int) - x ∧ (layRight x W W' : Int) - x ≤ W' ∧
      (if (0 : Int) > x then 0 else x) = (layLeft x : Int) ∧ (if (W : Int) < x + (W' : Int) then (W : Int) else x + (W' : Int)) = (layRight x W W' : Int) := by
  unfold layLeft layRight
  obtain ⟨r, hr⟩ : ∃ r : Nat, x + (W' : Int) = (r : Int) := Int.eq_ofNat_of_zero_le (by omega)
  rw [hr]
  have e2 : (min (r : Int) (W : Int)).toNat = min r W := by omega
  have e3 : (if (W : Int) < (r : Int) then (W : Int) else (r : Int)) = ((min r W : Nat) : Int) := by split <;> omega
  rw [e2, e3]
  by_cases h1 : (0 : Int) > x
  · have e1 : (max x 0).toNat = 0 := by omega
    rw [e1, if_pos h1]
    exact ⟨by omega, by omega, by omega, by omega, by omega, rfl⟩
  · obtain ⟨q, rfl⟩ := Int.eq_ofNat_of_zero_le (show 0 ≤ x by omega)
    have e1 : (max (q : Int) 0).toNat = q := by omega
    rw [e1, if_neg h1]
    exact ⟨by omega, by omega, by omega, by omega, by omega, rfl⟩
end Go.Proofs.Ytlbocfinjlkebaa
