/- The plane's functions at samples of type int that compare: slices.Equal, Same, Ends. -/
import Derived.Test.YtlbocfinjlkebaaPlanePIw
namespace Go.Proofs.Ytlbocfinjlkebaa.PI
open Go.RowKit

def eqE (a b : Int) : Bool := a == b
def ltE (a b : Int) : Bool := decide (a < b)
def gtE (a b : Int) : Bool := decide (b < a)
def eqL : List Int → List Int → Bool
  | [], [] => true
  | a :: l, b :: m => eqE a b && eqL l m
  | _, _ => false
theorem eqL_length : ∀ (l m : List Int), eqL l m = true → l.length = m.length
  | [], [], _ => rfl
  | _ :: l, _ :: m, h => by
    simp only [eqL, Bool.and_eq_true] at h
    simp [eqL_length l m h.2]
  | [], _ :: _, h => by simp [eqL] at h
  | _ :: _, [], h => by simp [eqL] at h
theorem cell_of_map {w : World} {b o n : Nat} {zs : List Int} (hc : ∀ j, j < n → w.cell? ⟨b, o + j, none⟩ = (zs.map (.int .i64))[j]?) {j : Nat} (hj : j < n) (hl : j < zs.length) : w.cell? ⟨b, o + j, none⟩ = some (.int .i64 zs[j]) := by
  rw [hc j hj]; simp [hl]

set_option maxRecDepth 100000 in
set_option maxHeartbeats 1000000 in
theorem equal_any (A B : Option Addr) (n m c c' : Nat) (zs ys : List Int) (w : World) (h1 : Sl w A n (zs.map (.int .i64))) (h2 : Sl w B m (ys.map (.int .i64))) (hn : n ≤ 67108864) (hm : m ≤ 140737488351232) :
    Calls Try.prog 84 #[.slice A n c, .slice B m c'] w fun e w' => e = .returned (.bool (eqL zs ys)) ∧ ∃ k, w' = w.drewN k := by
  obtain ⟨hl1, hc1⟩ := h1
  obtain ⟨hl2, hc2⟩ := h2
  simp only [List.length_map] at hl1 hl2
  by_cases hnm : n = m
  · subst hnm
    have e0 : ((n : Int) != (n : Int)) = false := by simp
    have HL1 := Lib.hid hl1; clear hl1
    have HL2 := Lib.hid hl2; clear hl2
    go_enter Try.func84, Try.ntmps84
    go_wp2
    go_loopw [13] (fun i wr => ∃ k q : Nat, k ≤ n ∧ i = .int .i64 k ∧ wr = w.drewN q ∧ eqL (zs.drop k) (ys.drop k) = eqL zs ys) (fun i _ => n - (intOf i).toNat)
    case atStart => exact ⟨0, 0, Nat.zero_le _, rfl, rfl, rfl⟩
    case round =>
      obtain ⟨k, q, hk, rfl, rfl, hr⟩ := hrel
      have HR := Lib.hid hr; clear hr
      by_cases hlt : k < n
      · obtain ⟨b1, o1, rfl, hd1⟩ := hc1 (by omega)
        obtain ⟨b2, o2, rfl, hd2⟩ := hc2 (by omega)
        have g1 : k < zs.length := by rw [HL1.out]; exact hlt
        have g2 : k < ys.length := by rw [HL2.out]; exact hlt
        have d1 := cell_of_map hd1 hlt g1
        have d2 := cell_of_map hd2 hlt g2
        have x1 : zs.drop k = zs[k] :: zs.drop (k + 1) := List.drop_eq_getElem_cons g1
        have x2 : ys.drop k = ys[k] :: ys.drop (k + 1) := List.drop_eq_getElem_cons g2
        generalize zs[k] = a at *
        generalize ys[k] = b at *
        have X1 := Lib.hid x1; clear x1
        have X2 := Lib.hid x2; clear x2
        clear hc1 hc2 hd1 hd2
        cases hab : eqE a b
        · have f1 : (a != b) = true := by simpa [eqE] using hab
          have HAB := Lib.hid hab; clear hab
          go_wp2
          go_quiet (fail)
          go_wp2
          go_ret
          exact ⟨by rw [← HR.out, X1.out, X2.out, eqL, HAB.out]; rfl, q + nq, by simp⟩
        · have f1 : (a != b) = false := by simpa [eqE] using hab
          have HAB := Lib.hid hab; clear hab
          go_wp2
          go_quiet (fail)
          go_wp2
          go_roundw
          case rel => exact ⟨k + 1, _, by omega, by go_num, rfl, by rw [← HR.out, X1.out, X2.out, eqL, HAB.out, Bool.true_and]⟩
          case measure => simp [intOf]; omega
      · have hkn : n ≤ k := by omega
        go_wp2
        go_ret
        exact ⟨by rw [← HR.out, List.drop_of_length_le (by rw [HL1.out]; exact hkn), List.drop_of_length_le (by rw [HL2.out]; exact hkn)]; rfl, _, rfl⟩
  · have e0 : ((n : Int) != (m : Int)) = true := by simp; omega
    have hf : eqL zs ys = false := by
      cases h : eqL zs ys
      · rfl
      · have := eqL_length zs ys h
        omega
    rw [hf]
    go_enter Try.func84, Try.ntmps84
    go_wp2
    go_ret
    exact ⟨rfl, 0, rfl⟩

def sameB (W H W' H' : Nat) (zs ys : List Int) : Bool := decide (W = W' ∧ H = H') && eqL zs ys

set_option maxRecDepth 100000 in
set_option maxHeartbeats 1000000 in
theorem same_any (b g W H c b' g' W' H' c' : Nat) (zs ys : List Int) (w : World) (hp : PA w b g W H c (zs.map (.int .i64))) (ho : PA w b' g' W' H' c' (ys.map (.int .i64))) :
    Calls Try.prog 33 #[.pointer (some ⟨b, 0, none⟩), .pointer (some ⟨b', 0, none⟩)] w fun e w' => e = .returned (.bool (sameB W H W' H' zs ys)) ∧ ∃ k, w' = w.drewN k := by
  have c0 := hp.c0
  have c1 := hp.c1
  have c2 := hp.c2
  have d0 := ho.c0
  have d1 := ho.c1
  have d2 := ho.c2
  unfold sameB
  by_cases hW : W = W'
  · subst hW
    have w0 : ((W : Int) == (W : Int)) = true := by simp
    by_cases hH : H = H'
    · subst hH
      have h0 : ((H : Int) == (H : Int)) = true := by simp
      have s1 : Sl w (some ⟨g, 0, none⟩) (W * H) (zs.map (.int .i64)) := by obtain ⟨cur, k1, k2, k3⟩ := hp.row; exact Sl.of_blk k1 k3 (by have := hp.cap; omega)
      have s2 : Sl w (some ⟨g', 0, none⟩) (W * H) (ys.map (.int .i64)) := by obtain ⟨cur, k1, k2, k3⟩ := ho.row; exact Sl.of_blk k1 k3 (by have := ho.cap; omega)
      have hz := hp.size
      have hd : (decide (W = W ∧ H = H) && eqL zs ys) = eqL zs ys := by simp
      rw [hd]
      clear hd
      go_enter Try.func33, Try.ntmps33
      go_wp2
      go_quiet ((go_at_call 84; refine Calls.quiet_of (equal_any _ _ _ _ _ _ _ _ _ (s1.drewN _) (s2.drewN _) hz (by omega))))
      go_wp2
      go_ret
      exact ⟨rfl, _, rfl⟩
    · have h0 : ((H : Int) == (H' : Int)) = false := by simp; omega
      have hd : (decide (W = W ∧ H = H') && eqL zs ys) = false := by simp [hH]
      rw [hd]
      clear hd
      go_enter Try.func33, Try.ntmps33
      go_wp2
      go_quiet (fail)
      go_wp2
      go_ret
      exact ⟨rfl, _, rfl⟩
  · have h0 : ((W : Int) == (W' : Int)) = false := by simp; omega
    have hd : (decide (W = W' ∧ H = H') && eqL zs ys) = false := by simp [hW]
    rw [hd]
    clear hd
    go_enter Try.func33, Try.ntmps33
    go_wp2
    go_quiet (fail)
    go_wp2
    go_ret
    exact ⟨rfl, _, rfl⟩

set_option maxHeartbeats 1000000 in
theorem same_nil (b g W H c : Nat) (xs : List Value) (w : World) (_hp : PA w b g W H c xs) :
    Calls Try.prog 33 #[.pointer (some ⟨b, 0, none⟩), .pointer none] w fun e w' => e = .returned (.bool false) ∧ ∃ k, w' = w.drewN k := by
  go_enter Try.func33, Try.ntmps33
  go_wp2
  go_quiet (fail)
  go_wp2
  go_ret
  exact ⟨rfl, _, rfl⟩

/-- one sample more, of Ends -/
def endS (s : Int × Int × Bool) (v : Int) : Int × Int × Bool :=
  if eqE v v then (if s.2.2 then (if ltE v s.1 then (v, s.2.1, true) else if gtE v s.2.1 then (s.1, v, true) else s) else (v, v, true)) else s
def endsL (zs : List Int) : Int × Int × Bool := zs.foldl endS (0, 0, false)

set_option maxRecDepth 100000 in
set_option maxHeartbeats 2000000 in
theorem ends_any (b g W H c : Nat) (zs : List Int) (w : World) (hp : PA w b g W H c (zs.map (.int .i64))) :
    Calls Try.prog 63 #[.pointer (some ⟨b, 0, none⟩)] w fun e w' => e = .returned (.tuple #[.int .i64 (endsL zs).1, .int .i64 (endsL zs).2.1, .bool (endsL zs).2.2]) ∧ ∃ k, w' = w.drewN k := by
  have c0 := hp.c0
  have c1 := hp.c1
  have c2 := hp.c2
  have hsz := hp.size
  have hl := hp.len
  simp only [List.length_map] at hl
  have s1 : Sl w (some ⟨g, 0, none⟩) (W * H) (zs.map (.int .i64)) := by obtain ⟨cur, k1, k2, k3⟩ := hp.row; exact Sl.of_blk k1 k3 (by have := hp.cap; omega)
  generalize hN : W * H = N at c2 hsz hl s1
  clear hN
  have HL := Lib.hid hl; clear hl
  go_enter Try.func63, Try.ntmps63
  go_wp2
  go_loopw [2, 3, 4, 12] (fun x y o i wr => ∃ k q : Nat, k ≤ N ∧ i = .int .i64 k ∧ wr = w.drewN q ∧ x = .int .i64 (endsL (zs.take k)).1 ∧ y = .int .i64 (endsL (zs.take k)).2.1 ∧ o = .bool (endsL (zs.take k)).2.2) (fun _ _ _ i _ => N - (intOf i).toNat)
  case atStart => exact ⟨0, 0, Nat.zero_le _, rfl, rfl, rfl, rfl, rfl⟩
  case round =>
    obtain ⟨k, q, hk, rfl, rfl, rfl, rfl, rfl⟩ := hrel
    by_cases hlt : k < N
    · obtain ⟨b1, o1, e1, hd1⟩ := s1.2 (by omega)
      injection e1 with e1
      injection e1 with e1 e2
      subst e1 e2
      have g1 : k < zs.length := by rw [HL.out]; exact hlt
      have d1 := cell_of_map hd1 hlt g1
      rw [Nat.zero_add] at d1
      have x1 : zs.take (k + 1) = zs.take k ++ [zs[k]] := by rw [List.take_succ_eq_append_getElem g1]
      have st : endsL (zs.take (k + 1)) = endS (endsL (zs.take k)) zs[k] := by rw [x1]; unfold endsL; rw [List.foldl_append]; rfl
      clear x1 hd1
      generalize zs[k] = v at *
      generalize hs0 : endsL (zs.take k) = s0 at *
      obtain ⟨x, y, ok⟩ := s0
      clear hs0
      have ST := Lib.hid st; clear st
      cases hvv : eqE v v
      · exact absurd hvv (by simp [eqE])
      · have hvt : True := trivial
        have HV := Lib.hid hvv; clear hvv
        cases ok
        · go_wp2
          go_roundw
          case rel => exact ⟨k + 1, _, by omega, by go_num, rfl, by rw [ST.out]; simp [endS, HV.out], by rw [ST.out]; simp [endS, HV.out], by rw [ST.out]; simp [endS, HV.out]⟩
          case measure => simp [intOf]; omega
        · cases hlx : ltE v x
          · have hf1 : ¬ v < x := by simpa [ltE] using hlx
            have HX := Lib.hid hlx; clear hlx
            cases hgy : gtE v y
            · have hf2 : ¬ y < v := by simpa [gtE] using hgy
              have HY := Lib.hid hgy; clear hgy
              go_wp2
              go_roundw
              case rel => exact ⟨k + 1, _, by omega, by go_num, rfl, by rw [ST.out]; simp [endS, HV.out, HX.out, HY.out], by rw [ST.out]; simp [endS, HV.out, HX.out, HY.out], by rw [ST.out]; simp [endS, HV.out, HX.out, HY.out]⟩
              case measure => simp [intOf]; omega
            · have hf2 : y < v := by simpa [gtE] using hgy
              have HY := Lib.hid hgy; clear hgy
              go_wp2
              go_roundw
              case rel => exact ⟨k + 1, _, by omega, by go_num, rfl, by rw [ST.out]; simp [endS, HV.out, HX.out, HY.out], by rw [ST.out]; simp [endS, HV.out, HX.out, HY.out], by rw [ST.out]; simp [endS, HV.out, HX.out, HY.out]⟩
              case measure => simp [intOf]; omega
          · have hf1 : v < x := by simpa [ltE] using hlx
            have HX := Lib.hid hlx; clear hlx
            go_wp2
            go_roundw
            case rel => exact ⟨k + 1, _, by omega, by go_num, rfl, by rw [ST.out]; simp [endS, HV.out, HX.out], by rw [ST.out]; simp [endS, HV.out, HX.out], by rw [ST.out]; simp [endS, HV.out, HX.out]⟩
            case measure => simp [intOf]; omega
    · have hkn : k = N := by omega
      subst hkn
      go_wp2
      go_ret3
      exact ⟨by rw [List.take_of_length_le (by rw [HL.out]; omega)]; rfl, _, rfl⟩
end Go.Proofs.Ytlbocfinjlkebaa.PI
