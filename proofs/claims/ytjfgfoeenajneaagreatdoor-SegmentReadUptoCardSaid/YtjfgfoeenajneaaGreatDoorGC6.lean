/- The program reads a segment's data. The program's way to fail. A new state; what it says of restarts. -/
import Derived.Test.YtjfgfoeenajneaaGreatDoorGC1
import Derived.Test.YtjfgfoeenajneaaGreatDoorGC4
import Derived.Test.YtjfgfoeenajneaaGreatDoorGA7
namespace Go.Proofs.YtjfgfoeenajneaaGreatDoor.Sg
open Go.RowKit
open Go.Proofs.YtjfgfoeenajneaaGreatDoor.Lex (F)

/-- a segment's lists, in memory of their own -/
structure Lists (base : Nat) (u : World) (m : SegM) (vq vh vc vp vi : Value) : Prop where
  q : u.ownsRow base 81 66 vq m.quants.length (m.quants.flatMap quantC)
  h : ∃ ps : List (HuffM × Value), ps.map (·.1) = m.huffs ∧ u.ownsRow base 87 19 vh ps.length (ps.flatMap huffC) ∧ (∀ p ∈ ps, VB u base p.2 p.1.vals) ∧ (List.map (fun p : HuffM × Value => p.2.ownBlock) ps).Nodup
  c : u.ownsRow base 90 4 vc m.comps.length (m.comps.flatMap compC)
  p : u.ownsRow base 92 3 vp m.parts.length (m.parts.flatMap partC)
  i : u.ownsRow base 5 1 vi m.ids.length (u8s m.ids)
theorem own_mono {u : World} {base b0 : Nat} {e : TypeId} {z n : Nat} {v : Value} {xs : List Value} (h : u.ownsRow base e z v n xs) (hb : b0 ≤ base) : u.ownsRow b0 e z v n xs := by
  refine ⟨h.1, ?_⟩
  rcases h.2 with h2 | ⟨g, c, cur, h1, h2, h3⟩
  · exact .inl h2
  · exact .inr ⟨g, c, cur, h1, by omega, h3⟩
theorem VB.mono {u : World} {base b0 : Nat} {v : Value} {t : List Nat} (h : VB u base v t) (hb : b0 ≤ base) : VB u b0 v t := by
  obtain ⟨g, cap, cur, h1, h2, h3⟩ := h
  exact ⟨g, cap, cur, h1, by omega, h3⟩
theorem Lists.mono {base b0 : Nat} {u : World} {m : SegM} {vq vh vc vp vi : Value} (h : Lists base u m vq vh vc vp vi) (hb : b0 ≤ base) : Lists b0 u m vq vh vc vp vi := by
  obtain ⟨q, ⟨ps, h1, h2, h3, h4⟩, c, p, i⟩ := h
  exact ⟨own_mono q hb, ⟨ps, h1, own_mono h2 hb, fun p hp => (h3 p hp).mono hb, h4⟩, own_mono c hb, own_mono p hb, own_mono i hb⟩
def SegOwn (base s : Nat) (m : SegM) (u : World) : Prop := ∃ vq vh vc vp vi, Blk u s 31 (segC m vq vh vc vp vi) ∧ Lists base u m vq vh vc vp vi
def FillP (s : Nat) (m : SegM) (w : World) (r : Res SegM) (e : Ending) (w' : World) : Prop :=
  match r with
  | .bad c => e = .returned (.iface 32 (.int .i64 (c : Nat))) ∧ c ≠ 0 ∧ But2 w.heap.size s s w w'
  | .ok r => e = .returned .nilIface ∧ SegOwn w.heap.size s { r with at_ := m.at_, end_ := m.end_ } w' ∧ But2 w.heap.size s s w w'
def blank (c : Nat) (a b : Int) : SegM := { SegM.none_ with code := c, at_ := a, end_ := b }
theorem contM_f {c : Nat} {d : List UInt8} (h : c = 192 ∨ c = 193) : contM c d = if rfM c d ≠ 0 then .bad (rfM c d) else .ok (segF { SegM.none_ with code := c } c d) := by
  unfold contM rfM
  rw [if_neg (by omega), if_neg (by omega), if_pos h]
  by_cases h1 : d.length < 6 ∨ d.length ≠ 6 + 3 * nb d 5
  · rw [if_pos (show d.length < 6 ∨ d.length ≠ 6 + 3 * (d.getD 5 0).toNat from h1), if_pos h1]
    rfl
  · rw [if_neg (show ¬ (d.length < 6 ∨ d.length ≠ 6 + 3 * (d.getD 5 0).toNat) from h1), if_neg h1]
    by_cases h2 : nb d 0 ≠ 8
    · rw [if_pos (show lead d ≠ 8 from h2), if_pos h2]
      rfl
    · rw [if_neg (show ¬ lead d ≠ 8 from h2), if_neg h2]
      rfl
theorem contM_s (d : List UInt8) : contM 218 d = if rsM d ≠ 0 then .bad (rsM d) else .ok { { SegM.none_ with code := 218 } with ids := (psOf d).map (·.1), parts := (psOf d).map (·.2) } := by
  unfold contM rsM psOf
  rw [if_neg (by omega), if_neg (by omega), if_neg (by omega), if_pos rfl]
  by_cases h1 : d = [] ∨ d.length ≠ 4 + 2 * lead d
  · rw [if_pos h1, if_pos h1]
    rfl
  · rw [if_neg h1, if_neg h1]
    by_cases h2 : lead d < 1 ∨ 4 < lead d ∨ d.drop (d.length - 3) ≠ [0, 63, 0]
    · rw [if_pos h2, if_pos h2]
      rfl
    · rw [if_neg h2, if_neg h2]
      cases (partsM ((d.drop 1).take (2 * lead d))).any (fun p => decide (3 < p.2.dc ∨ 3 < p.2.ac)) <;> rfl
set_option maxRecDepth 100000 in
set_option maxHeartbeats 32000000 in
theorem fill_any (s c : Nat) (a b : Int) (d : List UInt8) (w : World) (hS : Blk w s 31 (segC (blank c a b) nilS nilS nilS nilS nilS)) (hc8 : c < 256) (hl : d.length ≤ 16777216) :
    Calls Tryz.prog 26 #[.pointer (some ⟨s, 0, none⟩), .string (Bs d)] w (FillP s (blank c a b) w (contM c d)) := by
  have hs := hS.lt
  go_enter Tryz.func26, Tryz.ntmps26
  go_upto_region 3 with fail
  have z1 : (w.alloc (.cells #[.pointer (some ⟨s, 0, none⟩)] 71)).heap.size = w.heap.size + 1 := by simp
  have z2 : ((w.alloc (.cells #[.pointer (some ⟨s, 0, none⟩)] 71)).alloc (.cells #[.string (Bs d)] 136)).heap.size = w.heap.size + 1 + 1 := by simp
  have x1 : Blk (((w.alloc (.cells #[.pointer (some ⟨s, 0, none⟩)] 71)).alloc (.cells #[.string (Bs d)] 136)).alloc (.cells #[.pointer (some ⟨w.heap.size + 1, 0, none⟩)] 134)) w.heap.size 71 #[.pointer (some ⟨s, 0, none⟩)] := ((Blk.new w _ _).alloc _).alloc _
  have xd : Blk (((w.alloc (.cells #[.pointer (some ⟨s, 0, none⟩)] 71)).alloc (.cells #[.string (Bs d)] 136)).alloc (.cells #[.pointer (some ⟨w.heap.size + 1, 0, none⟩)] 134)) (w.heap.size + 1) 136 #[.string (Bs d)] := by
    have h := (Blk.new (w.alloc (.cells #[.pointer (some ⟨s, 0, none⟩)] 71)) 136 #[.string (Bs d)]).alloc (.cells #[.pointer (some ⟨w.heap.size + 1, 0, none⟩)] 134)
    rw [z1] at h
    exact h
  have x2 : Blk (((w.alloc (.cells #[.pointer (some ⟨s, 0, none⟩)] 71)).alloc (.cells #[.string (Bs d)] 136)).alloc (.cells #[.pointer (some ⟨w.heap.size + 1, 0, none⟩)] 134)) (w.heap.size + 1 + 1) 134 #[.pointer (some ⟨w.heap.size + 1, 0, none⟩)] := by
    have h := Blk.new ((w.alloc (.cells #[.pointer (some ⟨s, 0, none⟩)] 71)).alloc (.cells #[.string (Bs d)] 136)) 134 #[.pointer (some ⟨w.heap.size + 1, 0, none⟩)]
    rw [z2] at h
    exact h
  have hS3 : Blk (((w.alloc (.cells #[.pointer (some ⟨s, 0, none⟩)] 71)).alloc (.cells #[.string (Bs d)] 136)).alloc (.cells #[.pointer (some ⟨w.heap.size + 1, 0, none⟩)] 134)) s 31 (segC (blank c a b) nilS nilS nilS nilS nilS) := ((hS.alloc _).alloc _).alloc _
  have hb3 : Below w.heap.size w (((w.alloc (.cells #[.pointer (some ⟨s, 0, none⟩)] 71)).alloc (.cells #[.string (Bs d)] 136)).alloc (.cells #[.pointer (some ⟨w.heap.size + 1, 0, none⟩)] 134)) := (((Below.refl _ _).alloc (Nat.le_refl _) _).alloc (by simp) _).alloc (by simp; omega) _
  have hz3 : (((w.alloc (.cells #[.pointer (some ⟨s, 0, none⟩)] 71)).alloc (.cells #[.string (Bs d)] 136)).alloc (.cells #[.pointer (some ⟨w.heap.size + 1, 0, none⟩)] 134)).heap.size = w.heap.size + 3 := by simp
  generalize (((w.alloc (.cells #[.pointer (some ⟨s, 0, none⟩)] 71)).alloc (.cells #[.string (Bs d)] 136)).alloc (.cells #[.pointer (some ⟨w.heap.size + 1, 0, none⟩)] 134)) = w3 at x1 xd x2 hS3 hb3 hz3 ⊢
  generalize hc1 : w.heap.size = c1 at x1 xd x2 hz3 ⊢
  have HC1 := Lib.hid hc1; clear hc1 z1 z2 hS
  obtain ⟨base, hbase⟩ : ∃ base, w3.heap.size = base := ⟨_, rfl⟩
  have hB3 : But2 w.heap.size s s w w3 := But2.of_below hb3
  have k1 : w3.cell? ⟨c1, 0, none⟩ = some (.pointer (some ⟨s, 0, none⟩)) := by rw [x1.cell]; rfl
  have k2 : w3.cell? ⟨c1 + 1 + 1, 0, none⟩ = some (.pointer (some ⟨c1 + 1, 0, none⟩)) := by rw [x2.cell]; rfl
  have g0 : w3.cell? ⟨s, 0, none⟩ = some (.int .u8 (c : Int)) := by rw [hS3.cell]; rfl
  have hsc : s < c1 := by have := HC1.out; omega
  obtain ⟨R, hR⟩ : ∃ R, contM c d = R := ⟨_, rfl⟩
  have HR := Lib.hid hR; clear hR
  by_cases q1 : c = 219
  · subst q1
    have hin : QIn base (c1 + 1) s (blank 219 a b) w3 d [] w3 := ⟨nilS, xd, hS3, World.ownsRow_nil _ _ _ _, But2.refl _ _ _ _⟩
    have hcall := tablesQ_any base (c1 + 1) s c1 (c1 + 1 + 1) (blank 219 a b) d w3 hin (by omega) (by omega) (by omega) (by omega) (by omega) x1 x2 hl
    have hcm : R = match (if d = [] then .bad 152 else quantsM d.length d []) with | .bad e => .bad e | .ok l => .ok { { SegM.none_ with code := 219 } with quants := l } := by
      rw [← HR.out]
      unfold contM
      rw [if_pos rfl]
      by_cases hd : d = []
      · rw [if_pos hd, if_pos hd]
      · rw [if_neg hd, if_neg hd]
        cases quantsM d.length d [] <;> rfl
    generalize (if d = [] then Res.bad 152 else quantsM d.length d []) = T at hcall hcm
    have HCALL := Lib.hid hcall; clear hcall hin
    go_wp2_with fail
    refine HCALL.out.mono ?_
    intro e w5 he
    cases T with
    | bad cc =>
      obtain ⟨rfl, hc0, hb5, hz5⟩ := he
      have hcb : ((cc : Int) != 0) = true := by simpa using hc0
      have hcb2 : ¬ ((cc : Int) = 0) := by omega
      have hB5 : But2 w.heap.size s s w w5 := hB3.trans ⟨hb5.os, hb5.tape, hb5.output, hb5.size, fun i hi h1 _ => hb5.block i (by have := HC1.out; omega) (by have := HC1.out; omega) h1⟩
      go_wp2_with fail
      go_ret
      rw [HR.out, hcm]
      exact ⟨rfl, hc0, hB5⟩
    | ok acc =>
      obtain ⟨rfl, hin5⟩ := he
      have hb5 := QIn.but hin5
      have hB5 : But2 w.heap.size s s w w5 := hB3.trans ⟨hb5.os, hb5.tape, hb5.output, hb5.size, fun i hi h1 _ => hb5.block i (by have := HC1.out; omega) (by have := HC1.out; omega) h1⟩
      go_wp2_with fail
      go_ret
      rw [HR.out, hcm]
      refine ⟨rfl, ?_, hB5⟩
      obtain ⟨vq, _, h2, h3, _⟩ := hin5
      exact ⟨vq, nilS, nilS, nilS, nilS, h2, own_mono h3 (by have := HC1.out; omega), ⟨[], rfl, World.ownsRow_nil _ _ _ _, fun p hp => by simp at hp, by simp⟩, World.ownsRow_nil _ _ _ _, World.ownsRow_nil _ _ _ _, World.ownsRow_nil _ _ _ _⟩
  by_cases q2 : c = 196
  · subst q2
    have hin : HIn base (c1 + 1) s (blank 196 a b) w3 d [] w3 := ⟨nilS, [], rfl, xd, hS3, World.ownsRow_nil _ _ _ _, fun p hp => by simp at hp, by simp, But2.refl _ _ _ _⟩
    have hcall := tablesH_any base (c1 + 1) s c1 (c1 + 1 + 1) (blank 196 a b) d w3 hin (by omega) (by omega) (by omega) (by omega) (by omega) x1 x2 hl
    have hcm : R = match (if d = [] then .bad 152 else huffsM d.length d []) with | .bad e => .bad e | .ok l => .ok { { SegM.none_ with code := 196 } with huffs := l } := by
      rw [← HR.out]
      unfold contM
      rw [if_neg (by decide), if_pos rfl]
      by_cases hd : d = []
      · rw [if_pos hd, if_pos hd]
      · rw [if_neg hd, if_neg hd]
        cases huffsM d.length d [] <;> rfl
    generalize (if d = [] then Res.bad 152 else huffsM d.length d []) = T at hcall hcm
    have HCALL := Lib.hid hcall; clear hcall hin
    go_wp2_with fail
    refine HCALL.out.mono ?_
    intro e w5 he
    cases T with
    | bad cc =>
      obtain ⟨rfl, hc0, hb5, hz5⟩ := he
      have hcb : ((cc : Int) != 0) = true := by simpa using hc0
      have hcb2 : ¬ ((cc : Int) = 0) := by omega
      have hB5 : But2 w.heap.size s s w w5 := hB3.trans ⟨hb5.os, hb5.tape, hb5.output, hb5.size, fun i hi h1 _ => hb5.block i (by have := HC1.out; omega) (by have := HC1.out; omega) h1⟩
      go_wp2_with fail
      go_ret
      rw [HR.out, hcm]
      exact ⟨rfl, hc0, hB5⟩
    | ok acc =>
      obtain ⟨rfl, hin5⟩ := he
      have hb5 := HIn.but hin5
      have hB5 : But2 w.heap.size s s w w5 := hB3.trans ⟨hb5.os, hb5.tape, hb5.output, hb5.size, fun i hi h1 _ => hb5.block i (by have := HC1.out; omega) (by have := HC1.out; omega) h1⟩
      go_wp2_with fail
      go_ret
      rw [HR.out, hcm]
      refine ⟨rfl, ?_, hB5⟩
      obtain ⟨vh, ps, h0, _, h2, h3, h4, h5, _⟩ := hin5
      exact ⟨nilS, vh, nilS, nilS, nilS, h2, World.ownsRow_nil _ _ _ _, ⟨ps, h0, own_mono h3 (by have := HC1.out; omega), fun p hp => (h4 p hp).mono (by have := HC1.out; omega), h5⟩, World.ownsRow_nil _ _ _ _, World.ownsRow_nil _ _ _ _, World.ownsRow_nil _ _ _ _⟩
  have hBx : ∀ u, But2 base s s w3 u → But2 w.heap.size s s w u := fun u hb5 => hB3.trans ⟨hb5.os, hb5.tape, hb5.output, hb5.size, fun i hi h1 h2 => hb5.block i (by have := HC1.out; omega) h1 h2⟩
  have HBX := Lib.hid hBx; clear hBx
  by_cases q3 : c = 192 ∨ c = 193
  · have hcall := readFrame_any base s (blank c a b) d w3 hS3 (by omega) (by omega) hc8 hl
    have hcm := contM_f (d := d) q3
    have HCALL := Lib.hid hcall; clear hcall
    have HCM := Lib.hid hcm; clear hcm
    rcases q3 with rfl | rfl
    · go_wp2_with fail
      refine HCALL.out.mono ?_
      rintro e w5 ⟨rfl, hb5, hin5⟩
      have hB5 := HBX.out _ hb5
      obtain ⟨f, hf⟩ : ∃ f, rfM (blank 192 a b).code d = f := ⟨_, rfl⟩
      rw [hf] at hin5
      rw [hf]
      have HF := Lib.hid (show rfM 192 d = f from hf); clear hf
      by_cases hf0 : f = 0
      case neg =>
        have hcb : ((f : Int) != 0) = true := by simpa using hf0
        have hcb2 : ¬ ((f : Int) = 0) := by omega
        go_wp2_with fail
        go_ret
        rw [HCM.out, HF.out, if_pos hf0]
        exact ⟨rfl, hf0, hB5⟩
      subst hf0
      obtain ⟨vc, h1, h2⟩ := hin5 rfl
      have HO := Lib.hid (And.intro h1 h2); clear h1 h2 hin5
      go_wp2_with fail
      go_ret
      rw [HCM.out, HF.out, if_neg (by simp)]
      exact ⟨rfl, ⟨nilS, nilS, vc, nilS, nilS, HO.out.1, World.ownsRow_nil _ _ _ _, ⟨[], rfl, World.ownsRow_nil _ _ _ _, fun p hp => by simp at hp, by simp⟩, own_mono HO.out.2 (by have := HC1.out; omega), World.ownsRow_nil _ _ _ _, World.ownsRow_nil _ _ _ _⟩, hB5⟩
    · go_wp2_with fail
      refine HCALL.out.mono ?_
      rintro e w5 ⟨rfl, hb5, hin5⟩
      have hB5 := HBX.out _ hb5
      obtain ⟨f, hf⟩ : ∃ f, rfM (blank 193 a b).code d = f := ⟨_, rfl⟩
      rw [hf] at hin5
      rw [hf]
      have HF := Lib.hid (show rfM 193 d = f from hf); clear hf
      by_cases hf0 : f = 0
      case neg =>
        have hcb : ((f : Int) != 0) = true := by simpa using hf0
        have hcb2 : ¬ ((f : Int) = 0) := by omega
        go_wp2_with fail
        go_ret
        rw [HCM.out, HF.out, if_pos hf0]
        exact ⟨rfl, hf0, hB5⟩
      subst hf0
      obtain ⟨vc, h1, h2⟩ := hin5 rfl
      have HO := Lib.hid (And.intro h1 h2); clear h1 h2 hin5
      go_wp2_with fail
      go_ret
      rw [HCM.out, HF.out, if_neg (by simp)]
      exact ⟨rfl, ⟨nilS, nilS, vc, nilS, nilS, HO.out.1, World.ownsRow_nil _ _ _ _, ⟨[], rfl, World.ownsRow_nil _ _ _ _, fun p hp => by simp at hp, by simp⟩, own_mono HO.out.2 (by have := HC1.out; omega), World.ownsRow_nil _ _ _ _, World.ownsRow_nil _ _ _ _⟩, hB5⟩
  by_cases q4 : c = 218
  · subst q4
    have hcall := readScan_any base s (blank 218 a b) d w3 hS3 (by omega) (by omega) hl
    have hcm := contM_s d
    have HCALL := Lib.hid hcall; clear hcall
    have HCM := Lib.hid hcm; clear hcm
    go_wp2_with fail
    refine HCALL.out.mono ?_
    rintro e w5 ⟨rfl, hb5, hin5⟩
    have hB5 := HBX.out _ hb5
    obtain ⟨f, hf⟩ : ∃ f, rsM d = f := ⟨_, rfl⟩
    rw [hf] at hin5
    rw [hf]
    have HF := Lib.hid hf; clear hf
    by_cases hf0 : f = 0
    case neg =>
      have hcb : ((f : Int) != 0) = true := by simpa using hf0
      have hcb2 : ¬ ((f : Int) = 0) := by omega
      go_wp2_with fail
      go_ret
      rw [HCM.out, HF.out, if_pos hf0]
      exact ⟨rfl, hf0, hB5⟩
    subst hf0
    obtain ⟨vp, vi, h1, h2, h3, _⟩ := hin5 rfl
    have HO := Lib.hid (And.intro h1 (And.intro h2 h3)); clear h1 h2 h3 hin5
    go_wp2_with fail
    go_ret
    rw [HCM.out, HF.out, if_neg (by simp)]
    refine ⟨rfl, ⟨nilS, nilS, nilS, vp, vi, HO.out.1, World.ownsRow_nil _ _ _ _, ⟨[], rfl, World.ownsRow_nil _ _ _ _, fun p hp => by simp at hp, by simp⟩, World.ownsRow_nil _ _ _ _, ?_, ?_⟩, hB5⟩
    · have h9 := own_mono HO.out.2.2 (b0 := w.heap.size) (by have := HC1.out; omega)
      show World.ownsRow _ _ _ _ _ ((psOf d).map (·.2)).length _
      rw [List.length_map]
      exact h9
    · have h9 := own_mono HO.out.2.1 (b0 := w.heap.size) (by have := HC1.out; omega)
      show World.ownsRow _ _ _ _ _ ((psOf d).map (·.1)).length _
      rw [List.length_map]
      exact h9
  by_cases q5 : c = 221
  · subst q5
    have hcm : contM 221 d = if d.length ≠ 2 then .bad 152 else .ok { { SegM.none_ with code := 221 } with restart := (nb2 d 0 : Nat) } := by
      unfold contM
      rw [if_neg (by omega), if_neg (by omega), if_neg (by omega), if_neg (by omega), if_pos rfl]
      rfl
    have HCM := Lib.hid hcm; clear hcm
    have hL : (Bs d).size = d.length := Bs_size d
    have hbyte : ∀ k, ∀ h : k < (Bs d).size, ((Bs d)[k]).toNat = nb d k := fun k h => by rw [Bs_get]; rfl
    by_cases h2 : d.length = 2
    case neg =>
      have h2b : ((d.length : Int) != 2) = true := by simp; omega
      have h2c : ¬ (d.length : Int) = 2 := by omega
      go_wp2_with fail
      go_ret
      rw [HCM.out, if_pos h2]
      exact ⟨rfl, by decide, hB3⟩
    have hcm := HCM.out
    rw [if_neg (by omega)] at hcm
    clear HCM
    have HCM := Lib.hid hcm; clear hcm
    rw [h2] at hL
    have hy0 : ∀ h : 0 < (Bs d).size, ((Bs d)[0]).toNat = nb d 0 := hbyte 0
    have hy1 : ∀ h : 1 < (Bs d).size, ((Bs d)[1]).toNat = nb d 1 := hbyte 1
    have hx0 := nb_lt d 0
    have hx1 := nb_lt d 1
    have hnb2 : nb2 d 0 = 256 * nb d 0 + nb d 1 := rfl
    clear hbyte h2
    generalize Bs d = LB at *
    generalize nb d 0 = B0 at *
    generalize nb d 1 = B1 at *
    have HNB := Lib.hid hnb2; clear hnb2
    have hwc : IntKind.i64.wrap ((B0 : Int) * 256) = 256 * (B0 : Int) := by rw [IntKind.wrap_i64]; omega
    have hor : bits .or .i64 (256 * (B0 : Int)) (B1 : Int) = 256 * (B0 : Int) + (B1 : Int) := i64_two B0 B1 (by omega) (by omega)
    have hwx0 : IntKind.i64.wrap (B0 : Int) = B0 := IntWalk.i64_in _ (by omega)
    have hwx1 : IntKind.i64.wrap (B1 : Int) = B1 := IntWalk.i64_in _ (by omega)
    go_upto_region 17 with fail
    refine Lex3.wp_region_lex [] (fun u => u.cell? ⟨c1, 0, none⟩ = some (.pointer (some ⟨s, 0, none⟩))) (fun u n h => h) k1 (by kernel_rfl) (by kernel_rfl) ?_
    try simp only [Act.put, zA, zB, zC]
    refine Lex3.run_load (v := ?_) (by rfl) (by rfl) (fun u hu => ?_) ?_; rotate_left; (go_simp; try with_reducible rfl); simp only [Act.put, zA, zB, zC]
    iterate 10 (refine Lex3.run_free (v := ?_) (by rfl) (by rfl) (fun u => ?_) ?_; rotate_left; (go_simp; try with_reducible rfl); simp only [Act.put, zA, zB, zC])

    refine Lex3.run_eff (by rfl) (by rfl) (fun n1 K1 hK1 => ?_)
    have hS4 : Blk (w3.drew.drewN n1) s 31 (segC (blank 221 a b) nilS nilS nilS nilS nilS) := hS3
    have x14 : Blk (w3.drew.drewN n1) c1 71 #[.pointer (some ⟨s, 0, none⟩)] := x1
    have hB4 : But2 w.heap.size s s w (w3.drew.drewN n1) := (hB3.drew 1).drew n1
    have hz4 : w.heap.size ≤ (w3.drew.drewN n1).heap.size := by have := HC1.out; show w.heap.size ≤ w3.heap.size; omega
    clear hS3 x1 hB3 k1
    generalize w3.drew.drewN n1 = w4 at hS4 x14 hB4 hz4 ⊢
    have c11 : w4.cell? ⟨s, 11, none⟩ = some (.int .i64 0) := by rw [hS4.cell]; rfl
    have f11 : w4.frozen? ⟨s, 11, none⟩ = false := hS4.frozen _
    have hS5 := hS4.set 11 (.int .i64 (256 * (B0 : Int) + (B1 : Int)))
    have x15 := x14.far (p := ⟨s, 11, none⟩) (show c1 ≠ s by omega) (.int .i64 (256 * (B0 : Int) + (B1 : Int)))
    have hB5 : But2 w.heap.size s s w (w4.setCell ⟨s, 11, none⟩ (.int .i64 (256 * (B0 : Int) + (B1 : Int)))) := hB4.trans (But2.of_grown (w5_one w4 s _) (fun g e => .inl (by injection e with e; exact e.symm)) hz4)
    go_simp
    refine hK1 _ _ (by rw [x15.cell]; rfl) ?_
    clear hK1 K1 c11 f11 hS4 x14 hB4 hz4
    generalize w4.setCell ⟨s, 11, none⟩ (.int .i64 (256 * (B0 : Int) + (B1 : Int))) = w5 at hS5 hB5 ⊢
    try simp only [Act.put, zA, zB, zC]


    refine Lex3.run_nil (fun n3 => ?_)
    have hS6 : Blk (w5.drewN n3) s 31 _ := hS5
    have hB6 := hB5.drew n3
    clear hS5 hB5
    generalize w5.drewN n3 = w6 at hS6 hB6 ⊢
    have HS6 := Lib.hid hS6; clear hS6
    go_wp2_with fail
    go_ret
    rw [HCM.out]
    refine ⟨rfl, ⟨nilS, nilS, nilS, nilS, nilS, ?_, World.ownsRow_nil _ _ _ _, ⟨[], rfl, World.ownsRow_nil _ _ _ _, fun p hp => by simp at hp, by simp⟩, World.ownsRow_nil _ _ _ _, World.ownsRow_nil _ _ _ _, World.ownsRow_nil _ _ _ _⟩, hB6⟩
    have h9 := HS6.out
    rw [show (256 * (B0 : Int) + (B1 : Int)) = ((nb2 d 0 : Nat) : Int) by rw [HNB.out]; omega] at h9
    exact h9
  have q3a : ¬ c = 192 := fun h => q3 (.inl h)
  have q3b : ¬ c = 193 := fun h => q3 (.inr h)
  have hcm : contM c d = .ok { { SegM.none_ with code := c } with data := d } := by
    unfold contM
    rw [if_neg q1, if_neg q2, if_neg q3, if_neg q4, if_neg q5]
  have HCM := Lib.hid hcm; clear hcm
  have p1 : ((c : Int) == 219) = false := beq_false_of_ne (by omega)
  have p2 : ((c : Int) == 196) = false := beq_false_of_ne (by omega)
  have p3 : ((c : Int) == 192) = false := beq_false_of_ne (by omega)
  have p4 : ((c : Int) == 193) = false := beq_false_of_ne (by omega)
  have p5 : ((c : Int) == 218) = false := beq_false_of_ne (by omega)
  have p6 : ((c : Int) == 221) = false := beq_false_of_ne (by omega)
  have c12 : w3.cell? ⟨s, 12, none⟩ = some (.string (Bs [])) := by rw [hS3.cell]; rfl
  have f12 : w3.frozen? ⟨s, 12, none⟩ = false := hS3.frozen _
  have hS5 := hS3.set 12 (.string (Bs d))
  have hB5 : But2 w.heap.size s s w (w3.setCell ⟨s, 12, none⟩ (.string (Bs d))) := hB3.trans (But2.of_grown (w5_one w3 s _) (fun g e => .inl (by injection e with e; exact e.symm)) (by have := HC1.out; omega))
  have HS5 := Lib.hid (And.intro hS5 hB5); clear hS5 hB5 hS3 q3
  go_wp2_with fail
  go_ret
  rw [HCM.out]
  exact ⟨rfl, ⟨nilS, nilS, nilS, nilS, nilS, HS5.out.1, World.ownsRow_nil _ _ _ _, ⟨[], rfl, World.ownsRow_nil _ _ _ _, fun p hp => by simp at hp, by simp⟩, World.ownsRow_nil _ _ _ _, World.ownsRow_nil _ _ _ _, World.ownsRow_nil _ _ _ _⟩, HS5.out.2⟩
end Go.Proofs.YtjfgfoeenajneaaGreatDoor.Sg
namespace Go.Proofs.YtjfgfoeenajneaaGreatDoor.Sg
open Go.RowKit

/-- no segment, and a fault -/
def FailP (code p : Int) (w : World) (e : Ending) (w' : World) : Prop :=
  ∃ g, e = .returned (.tuple #[.agg (segC SegM.none_ nilS nilS nilS nilS nilS), .iface 67 (.pointer (some ⟨g, 0, none⟩))]) ∧ w.heap.size ≤ g ∧ Blk w' g 34 #[.int .i64 code, .int .i64 p] ∧ Below w.heap.size w w'
theorem size13R : (Tryz.prog.info? 31).map (·.size) = some 13 := by kernel_rfl
set_option maxRecDepth 100000 in
set_option maxHeartbeats 8000000 in
theorem fail_any (code p : Int) (w : World) :
    Calls Tryz.prog 24 #[.int .i64 code, .int .i64 p] w (FailP code p w) := by
  go_enter Tryz.func24, Tryz.ntmps24
  go_wp2_with fail
  have h1 : Blk ((w.alloc (.cells #[.int .u8 0, .int .i64 0, .int .i64 0, .slice none 0 0, .slice none 0 0, .int .u8 0, .int .i64 0, .int .i64 0, .slice none 0 0, .slice none 0 0, .slice none 0 0, .int .i64 0, .string (ByteArray.mk #[])] 31)).alloc (.cells #[.int .i64 code, .int .i64 p] 34)) w.heap.size 31 (segC SegM.none_ nilS nilS nilS nilS nilS) := (Blk.new w 31 #[.int .u8 0, .int .i64 0, .int .i64 0, .slice none 0 0, .slice none 0 0, .int .u8 0, .int .i64 0, .int .i64 0, .slice none 0 0, .slice none 0 0, .slice none 0 0, .int .i64 0, .string (ByteArray.mk #[])]).alloc _
  have h2 : Blk ((w.alloc (.cells #[.int .u8 0, .int .i64 0, .int .i64 0, .slice none 0 0, .slice none 0 0, .int .u8 0, .int .i64 0, .int .i64 0, .slice none 0 0, .slice none 0 0, .slice none 0 0, .int .i64 0, .string (ByteArray.mk #[])] 31)).alloc (.cells #[.int .i64 code, .int .i64 p] 34)) (w.heap.size + 1) 34 #[.int .i64 code, .int .i64 p] := by
    have h := Blk.new (w.alloc (.cells #[.int .u8 0, .int .i64 0, .int .i64 0, .slice none 0 0, .slice none 0 0, .int .u8 0, .int .i64 0, .int .i64 0, .slice none 0 0, .slice none 0 0, .slice none 0 0, .int .i64 0, .string (ByteArray.mk #[])] 31)) 34 #[.int .i64 code, .int .i64 p]
    rw [show (w.alloc (.cells #[.int .u8 0, .int .i64 0, .int .i64 0, .slice none 0 0, .slice none 0 0, .int .u8 0, .int .i64 0, .int .i64 0, .slice none 0 0, .slice none 0 0, .slice none 0 0, .int .i64 0, .string (ByteArray.mk #[])] 31)).heap.size = w.heap.size + 1 by simp] at h
    exact h
  refine bodyPost_ret (results_cell_tmp (by rfl) _ _ w.heap.size 31 _ _ _ _ (by rfl) (by rfl) h1 Tryz.underlying31 rfl size13R) (by rfl) ?_
  exact ⟨w.heap.size + 1, rfl, by omega, h2, ((Below.refl _ _).alloc (Nat.le_refl _) _).alloc (by simp) _⟩
end Go.Proofs.YtjfgfoeenajneaaGreatDoor.Sg
namespace Go.Proofs.YtjfgfoeenajneaaGreatDoor.Sg
open Go.RowKit

theorem infoS : (Tryz.prog.info? 101).map (fun i => (i.zero, i.size)) = some (some (.agg Tryz.zeroCells101), 559) := by kernel_rfl
set_option maxRecDepth 100000 in
set_option maxHeartbeats 4000000 in
theorem new_any (w : World) :
    Calls Tryz.prog 11 #[] w fun e w' => e = .returned (.pointer (some ⟨w.heap.size, 0, none⟩)) ∧ Blk w' w.heap.size 101 Tryz.zeroCells101 ∧ Below w.heap.size w w' := by
  go_enter Tryz.func11, Tryz.ntmps11
  go_wp2_with fail
  go_ret
  exact ⟨rfl, Blk.new w _ _, (Below.refl _ _).alloc (Nat.le_refl _) _⟩
set_option maxRecDepth 100000 in
set_option maxHeartbeats 4000000 in
theorem restart_any (g : Nat) (cs : Array Value) (r : Int) (w : World) (h : Blk w g 101 cs) (hr : cs[409]? = some (.int .i64 r)) :
    Calls Tryz.prog 19 #[.pointer (some ⟨g, 0, none⟩)] w fun e w' => e = .returned (.int .i64 r) ∧ w' = w := by
  have k : w.cell? ⟨g, 409, none⟩ = some (.int .i64 r) := by rw [h.cell, hr]
  go_enter Tryz.func19, Tryz.ntmps19
  go_wp2_with fail
  go_ret
  exact ⟨rfl, rfl⟩
end Go.Proofs.YtjfgfoeenajneaaGreatDoor.Sg
