/- Lists of a segment are written over: nothing else changes. -/
import Derived.Test.YtjfgfoeenajneaaGreatDoorGC9
import Derived.Deep.Upon
namespace Go.Proofs.YtjfgfoeenajneaaGreatDoor.Sg
open Go.RowKit

/-- cells of some blocks are written over, nothing else -/
structure Wr (S : Nat → Prop) (w w' : World) : Prop where
  os : w'.os = w.os
  tape : w'.tape = w.tape
  output : w'.output = w.output
  size : w.heap.size ≤ w'.heap.size
  block : ∀ g, g < w.heap.size → ¬ S g → w'.heap[g]? = w.heap[g]?
  some_ : ∀ g o, (w.cell? ⟨g, o, none⟩).isSome = true → (w'.cell? ⟨g, o, none⟩).isSome = true
  froz : ∀ g o, g < w.heap.size → w'.frozen? ⟨g, o, none⟩ = w.frozen? ⟨g, o, none⟩
theorem lt_of_some {w : World} {g o : Nat} (h : (w.cell? ⟨g, o, none⟩).isSome = true) : g < w.heap.size := by
  obtain ⟨v, hv⟩ := Option.isSome_iff_exists.1 h
  exact World.block_lt_of_cell? w _ hv
theorem Wr.refl (S : Nat → Prop) (w : World) : Wr S w w := ⟨rfl, rfl, rfl, Nat.le_refl _, fun _ _ _ => rfl, fun _ _ h => h, fun _ _ _ => rfl⟩
theorem Wr.trans {S : Nat → Prop} {a b c : World} (h : Wr S a b) (k : Wr S b c) : Wr S a c :=
  ⟨k.os.trans h.os, k.tape.trans h.tape, k.output.trans h.output, Nat.le_trans h.size k.size, fun g hg hs => (k.block g (Nat.lt_of_lt_of_le hg h.size) hs).trans (h.block g hg hs),
    fun g o hh => k.some_ g o (h.some_ g o hh), fun g o hg => (k.froz g o (Nat.lt_of_lt_of_le hg h.size)).trans (h.froz g o hg)⟩
theorem Wr.mono {S T : Nat → Prop} {a b : World} (h : Wr S a b) (hs : ∀ g, S g → T g) : Wr T a b :=
  ⟨h.os, h.tape, h.output, h.size, fun g hg ht => h.block g hg fun x => ht (hs g x), h.some_, h.froz⟩
theorem Wr.of_below {S : Nat → Prop} {a b : World} (h : Below a.heap.size a b) : Wr S a b :=
  ⟨h.os, h.tape, h.output, h.size, fun g hg _ => h.block g hg, fun g o hh => by
    obtain ⟨v, hv⟩ := Option.isSome_iff_exists.1 hh
    rw [below_cell h hv]; rfl, fun g o hg => by unfold World.frozen?; rw [h.block g hg]⟩
theorem Wr.drew {S : Nat → Prop} {a b : World} (h : Wr S a b) (n : Nat) : Wr S a (b.drewN n) := ⟨h.os, h.tape, h.output, h.size, h.block, h.some_, h.froz⟩
theorem setCells_tape (g : Nat) : ∀ (vs : List Value) (o : Nat) (w : World), (w.setCells g o vs).tape = w.tape ∧ (w.setCells g o vs).heap.size = w.heap.size
  | [], _, _ => ⟨rfl, rfl⟩
  | v :: r, o, w => by
    obtain ⟨h1, h2⟩ := setCells_tape g r (o + 1) (w.setCell ⟨g, o, none⟩ v)
    exact ⟨h1, h2.trans (by simp)⟩
theorem Wr.cells {S : Nat → Prop} (w : World) (g o : Nat) (vs : List Value) (hs : S g) : Wr S w (w.setCells g o vs) :=
  ⟨World.os_setCells .., (setCells_tape _ _ _ _).1, World.output_setCells .., Nat.le_of_eq (setCells_tape _ _ _ _).2.symm, fun _ hi hn => World.heap_setCells_other w g o vs hi (fun e => hn (e ▸ hs)), fun _ _ h => World.isSome_setCells _ _ _ _ _ h, fun _ _ _ => World.frozen?_setCells _ _ _ _ _⟩
theorem Wr.cell {S : Nat → Prop} (w : World) (g o : Nat) (v : Value) (hs : S g) : Wr S w (w.setCell ⟨g, o, none⟩ v) := by
  have h := Wr.cells w g o [v] hs
  exact h
theorem Wr.keep {S : Nat → Prop} {a b : World} (h : Wr S a b) {g o : Nat} {v : Value} (hc : a.cell? ⟨g, o, none⟩ = some v) (hs : ¬ S g) : b.cell? ⟨g, o, none⟩ = some v := by
  rw [← hc]
  unfold World.cell?
  rw [h.block g (World.block_lt_of_cell? a _ hc) hs]
theorem Wr.there {S : Nat → Prop} {a b : World} (h : Wr S a b) {g o n : Nat} (hc : a.there g o n) : b.there g o n := fun j hj => by
  obtain ⟨h1, h2⟩ := hc j hj
  exact ⟨h.some_ _ _ h1, (h.froz _ _ (lt_of_some h1)).trans h2⟩
theorem there_at {w : World} {g o n k : Nat} (h : w.there g o n) (hk : k < n) : (∃ v, w.cell? ⟨g, o + k, none⟩ = some v) ∧ w.frozen? ⟨g, o + k, none⟩ = false :=
  ⟨Option.isSome_iff_exists.1 (h k hk).1, (h k hk).2⟩
theorem there_sub {w : World} {g o n : Nat} (h : w.there g o n) (k z : Nat) (hk : k + z ≤ n) : w.there g (o + k) z := fun j hj => by
  have := h (k + j) (by omega)
  rwa [← Nat.add_assoc] at this
set_option maxRecDepth 100000 in
set_option maxHeartbeats 4000000 in
theorem fillW (A : Option Addr) (n c : Nat) (w : World) (hn : n ≤ 1152921504606846976) (h : 0 < n → ∃ g o, A = some ⟨g, o, none⟩ ∧ w.there g o n) :
    Calls Tryz.prog 32 #[.slice A n c] w fun e w' => (∃ r, e = .returned r) ∧ Wr (fun g => 0 < n ∧ ∃ o, A = some ⟨g, o, none⟩) w w' := by
  have H := Lib.hid h; clear h
  go_enter Tryz.func32, Tryz.ntmps32
  go_upto_region 1 with fail
  go_loopw [2] (fun i wr => ∃ k : Nat, k ≤ n ∧ i = .int .i64 k ∧ Wr (fun g => 0 < n ∧ ∃ o, A = some ⟨g, o, none⟩) w wr) (fun i _ => n - (intOf i).toNat)
  case atStart => exact ⟨0, by omega, rfl, Wr.refl _ _⟩
  case round =>
    obtain ⟨k, hk, rfl, hw⟩ := hrel
    by_cases hlt : k < n
    · obtain ⟨g, o, rfl, ht⟩ := H.out (by omega)
      obtain ⟨⟨v, hv⟩, hf⟩ := there_at (hw.there ht) hlt
      have hw2 := hw.trans (Wr.cell (S := fun g' => 0 < n ∧ ∃ o', (some ⟨g, o, none⟩ : Option Addr) = some ⟨g', o', none⟩) wr g (o + k) (.int .u8 238) ⟨by omega, o, rfl⟩)
      have HW := Lib.hid hw2; clear hw2 hw ht
      have hk0 : 0 ≤ (k : Int) := by omega
      have hkn : (k : Int) < (n : Int) := by omega
      go_wp2_with fail
      go_roundw
      case rel => exact ⟨k + 1, by omega, by go_num, HW.out⟩
      case measure => simp [intOf]; omega
    · have HW := Lib.hid hw; clear hw
      go_wp2_with fail
      refine bodyPost_end (results_none (by rfl) _ _ _) (by rfl) ?_
      exact ⟨⟨_, rfl⟩, HW.out⟩

/-- a row of n items of z cells that may be written -/
def Sp (lo hi : Nat) (u : World) (A : Option Addr) (n z : Nat) : Prop := 0 < n → ∃ b o, A = some ⟨b, o, none⟩ ∧ lo ≤ b ∧ b < hi ∧ u.there b o (n * z)
theorem Sp.wr {lo hi : Nat} {S : Nat → Prop} {u u' : World} {A : Option Addr} {n z : Nat} (h : Sp lo hi u A n z) (hw : Wr S u u') : Sp lo hi u' A n z := fun hn => by
  obtain ⟨b, o, h1, h2, h3, h4⟩ := h hn
  exact ⟨b, o, h1, h2, h3, hw.there h4⟩
/-- the lists of a segment may be written over -/
structure SpIn (lo hi : Nat) (u : World) (m : SegM) (vq vh vc vp vi : Value) : Prop where
  q : ∃ A c, vq = .slice A m.quants.length c ∧ Sp lo hi u A m.quants.length 66
  h : ∃ A c, vh = .slice A m.huffs.length c ∧ Sp lo hi u A m.huffs.length 19 ∧ ∀ b o, A = some ⟨b, o, none⟩ → 0 < m.huffs.length → (∀ A' n' c' o', vq = .slice A' n' c' → A' ≠ some ⟨b, o', none⟩) ∧
    ∀ k, k < m.huffs.length → ∃ A' n' c', u.cell? ⟨b, o + k * 19 + 18, none⟩ = some (.slice A' n' c') ∧ n' ≤ 16777216 ∧ Sp lo hi u A' n' 1 ∧ ∀ o', A' ≠ some ⟨b, o', none⟩
  c : ∃ A c, vc = .slice A m.comps.length c ∧ Sp lo hi u A m.comps.length 4
  p : ∃ A c, vp = .slice A m.parts.length c ∧ Sp lo hi u A m.parts.length 3
  i : ∃ A c, vi = .slice A m.ids.length c ∧ Sp lo hi u A m.ids.length 1
theorem SpIn.wr {lo hi : Nat} {u u' : World} {m : SegM} {vq vh vc vp vi : Value} (h : SpIn lo hi u m vq vh vc vp vi) (hw : Below u.heap.size u u') : SpIn lo hi u' m vq vh vc vp vi := by
  have hW : Wr (fun _ => False) u u' := Wr.of_below hw
  obtain ⟨⟨A, c, h1, h2⟩, ⟨A2, c2, h3, h4, h5⟩, ⟨A3, c3, h6, h7⟩, ⟨A4, c4, h8, h9⟩, ⟨A5, c5, h10, h11⟩⟩ := h
  refine ⟨⟨A, c, h1, h2.wr hW⟩, ⟨A2, c2, h3, h4.wr hW, fun b o e hn => ⟨(h5 b o e hn).1, fun k hk => ?_⟩⟩, ⟨A3, c3, h6, h7.wr hW⟩, ⟨A4, c4, h8, h9.wr hW⟩, ⟨A5, c5, h10, h11.wr hW⟩⟩
  obtain ⟨A', n', c', k1, k2, k3, k4⟩ := (h5 b o e hn).2 k hk
  exact ⟨A', n', c', below_cell hw k1, k2, k3.wr hW, k4⟩
theorem own_there {u : World} {base : Nat} {e : TypeId} {z n : Nat} {v : Value} {xs : List Value} (h : u.ownsRow base e z v n xs) : ∃ A c, v = .slice A n c ∧ Sp base u.heap.size u A n z := by
  rcases h.2 with ⟨rfl, h0⟩ | ⟨g, cap, cur, rfl, hb, hg, hle, _, hn, ht⟩
  · exact ⟨none, 0, by rw [h0], fun h9 => by omega⟩
  · refine ⟨_, _, rfl, fun h9 => ⟨g, 0, rfl, hb, (Array.getElem?_eq_some_iff.1 hg).1, fun j hj => ?_⟩⟩
    have hj2 : j < cur.size := by
      rw [hn]
      exact Nat.lt_of_lt_of_le hj (Nat.mul_le_mul_right _ (by omega))
    constructor
    · simp [World.cell?, hg, hj2]
    · simp [World.frozen?, hg]
theorem own_obj {u : World} {base : Nat} {e : TypeId} {z n k c g o : Nat} {xs : List Value} (h : u.ownsRow base e z (.slice (some ⟨g, o, none⟩) k c) n xs) : ∃ cur, u.heap[g]? = some (.cells cur e (0, 0)) := by
  rcases h.2 with ⟨h9, _⟩ | ⟨g', cap, cur, h9, _, hg, _⟩
  · cases h9
  · injection h9 with h9 _ _
    injection h9 with h9
    injection h9 with h9 _ _
    subst h9
    exact ⟨cur, hg⟩
theorem vl_there {u : World} {base : Nat} {v : Value} {t : List Nat} (h : VL u base v t) : ∃ A c, v = .slice A t.length c ∧ Sp base u.heap.size u A t.length 1 ∧ ∀ g o, A = some ⟨g, o, none⟩ → ∃ cur z, u.heap[g]? = some (.cells cur 5 z) := by
  rcases h with ⟨rfl, rfl⟩ | ⟨g, cap, cur, z, rfl, h1, h2, h3, h4, h5, h6⟩
  · exact ⟨none, 0, rfl, fun h => by simp at h, fun g o e => by cases e⟩
  · refine ⟨_, cap, rfl, fun _ => ⟨g, 0, rfl, h1, (Array.getElem?_eq_some_iff.1 h2).1, fun j hj => ?_⟩, fun g' o e => ?_⟩
    · rw [Nat.mul_one] at hj
      have hj2 : j < cur.size := by omega
      constructor
      · simp [World.cell?, h2, hj2]
      · unfold World.frozen?
        rw [h2]
        rcases h3 with rfl | rfl
        · simp
        · have : ¬ cap ≤ j := by omega
          simp [this]
    · injection e with e
      injection e with e _ _
      subst e
      exact ⟨cur, z, h2⟩
theorem SpIn.of_lists {base : Nat} {u : World} {m : SegM} {vq vh vc vp vi : Value} (h : ListsL base u m vq vh vc vp vi) (hok : SegOk m) (hfew : ∀ h ∈ m.huffs, h.vals.length ≤ 16777216) : SpIn base u.heap.size u m vq vh vc vp vi := by
  obtain ⟨A, c, rfl, h1⟩ := own_there h.q
  obtain ⟨A3, c3, rfl, h3⟩ := own_there h.c
  obtain ⟨A4, c4, rfl, h4⟩ := own_there h.p
  obtain ⟨A5, c5, rfl, h5⟩ := own_there h.i
  refine ⟨⟨A, c, rfl, h1⟩, ?_, ⟨A3, c3, rfl, h3⟩, ⟨A4, c4, rfl, h4⟩, ⟨A5, c5, rfl, h5⟩⟩
  obtain ⟨ps, hps, hown, hvl⟩ := h.h
  have hlen : ps.length = m.huffs.length := by rw [← hps, List.length_map]
  obtain ⟨A2, c2, hvh, h2⟩ := own_there hown
  have hq := h.q
  clear h
  subst hvh
  obtain ⟨A9, c9, e9, hrw, _⟩ := own_rws hown
  injection e9 with e9 _ _
  subst e9
  obtain ⟨_, hat⟩ := rows_at (by decide) (fun p hm => huffC_length (hok.huffs p.1 (by rw [← hps]; exact List.mem_map_of_mem hm)).len) hrw
  rw [hlen] at h2 hown hat ⊢
  refine ⟨A2, c2, rfl, h2, fun b o e hn => ?_⟩
  subst e
  obtain ⟨b', o', e', hat⟩ := hat hn
  injection e' with e'
  injection e' with e1 e2 _
  subst e1 e2
  obtain ⟨cur, hcur⟩ := own_obj hown
  refine ⟨fun A' n' c' o' e1 e2 => ?_, fun k hk => ?_⟩
  · injection e1 with e1 _ _
    subst e1
    subst e2
    obtain ⟨cur2, hcur2⟩ := own_obj hq
    rw [hcur] at hcur2
    injection hcur2 with hcur2
    injection hcur2 with _ hcur2 _
    exact absurd hcur2 (by decide)
  · obtain ⟨p, hp⟩ : ∃ p, ps[k]? = some p := ⟨ps[k]'(by omega), List.getElem?_eq_getElem _⟩
    have hpm := List.mem_of_getElem? hp
    have hpm2 : p.1 ∈ m.huffs := by rw [← hps]; exact List.mem_map_of_mem hpm
    obtain ⟨A', c', hv, hsp, hty⟩ := vl_there (hvl p hpm)
    refine ⟨A', p.1.vals.length, c', ?_, hfew _ hpm2, hsp, fun o' e1 => ?_⟩
    · rw [← hv]
      have h9 := huffC_val (p := p) (hok.huffs p.1 hpm2).len
      rw [List.getElem?_toArray] at h9
      exact hat k p hp 18 _ h9
    · obtain ⟨cur2, z, hcur2⟩ := hty b o' e1
      rw [hcur] at hcur2
      injection hcur2 with hcur2
      injection hcur2 with _ hcur2 _
      exact absurd hcur2 (by decide)
end Go.Proofs.YtjfgfoeenajneaaGreatDoor.Sg
