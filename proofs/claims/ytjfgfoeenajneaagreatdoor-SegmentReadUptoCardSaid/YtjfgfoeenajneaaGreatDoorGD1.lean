/- Opening arguments: segments. A law's card out of its call, where the row lists the errors' type. -/
import Derived.Test.YtjfgfoeenajneaaGreatDoorRows
import Derived.Test.YtjfgfoeenajneaaGreatDoorGA3
import Derived.Test.YtjfgfoeenajneaaGreatDoorGB1
import Derived.Test.YtjfgfoeenajneaaGreatDoorGC4
import Derived.SizedLaws
import Derived.Laws.Cover2
import Derived.Test.YtjfgfoeenajneaaGreatDoorCards
import Derived.Test.YtjfgfoeenajneaaGreatDoorTie
import Derived.Test.YtjfgfoeenajneaaGreatDoorGC5
import Derived.Deep.DeepHandedRow
import Derived.LaidLaws
import Derived.LaidHandle
import Derived.Stop.Joined
namespace Go.Proofs.YtjfgfoeenajneaaGreatDoor.bulks

theorem one_le {H : Type} (d : DataW H) : 1 ≤ Rows.uptoBulk d := by
  cases d with
  | lit l => cases l <;> simp [Rows.uptoBulk]
  | nil => simp [Rows.uptoBulk]
  | ptr d => simp [Rows.uptoBulk]
  | slice elems spare => simp [Rows.uptoBulk]
  | agg parts => simp [Rows.uptoBulk]
  | iface t d => simp [Rows.uptoBulk]
  | map entries => simp [Rows.uptoBulk]
  | held h => simp [Rows.uptoBulk]
theorem part_le {H : Type} {d : DataW H} {l : List (DataW H)} (h : d ∈ l) : Rows.uptoBulk d ≤ Rows.uptoBulkAll l := by
  induction l with
  | nil => cases h
  | cons x r ih =>
    simp only [Rows.uptoBulkAll]
    cases List.mem_cons.1 h with
    | inl e => subst e; omega
    | inr e => have := ih e; omega
theorem length_le {H : Type} (l : List (DataW H)) : l.length ≤ Rows.uptoBulkAll l := by
  induction l with
  | nil => simp [Rows.uptoBulkAll]
  | cons x r ih => have := one_le x; simp only [Rows.uptoBulkAll, List.length_cons]; omega
theorem slice_le {H : Type} (elems spare : List (DataW H)) : elems.length + spare.length + 1 ≤ Rows.uptoBulk (.slice elems spare) := by
  have h1 := length_le elems
  have h2 := length_le spare
  simp only [Rows.uptoBulk]
  omega
theorem agg_le {H : Type} {d : DataW H} {l : List (DataW H)} (h : d ∈ l) : Rows.uptoBulk d + 1 ≤ Rows.uptoBulk (.agg l) := by
  have := part_le h
  simp only [Rows.uptoBulk]
  omega
theorem bound {H : Type} {l : List (DataW H)} (hk : Rows.uptoSmall H l = true) : Rows.uptoBulkAll l ≤ 1048576 := by
  have h := of_decide_eq_true hk
  exact h
end Go.Proofs.YtjfgfoeenajneaaGreatDoor.bulks
namespace Go.Proofs.YtjfgfoeenajneaaGreatDoor.Sg
open Go.ChangeShapes Go.WideShapes Go.ChangeAt Go.RowKit Go.Deep

section
variable {H : Type} {enc : TypeId × Value → H} {P : Program} {W : World} {N : Nat}

theorem list_of {α : Type} {Q : Nat → α → Prop} : ∀ n, (∀ i, i < n → ∃ a, Q i a) → ∃ l : List α, l.length = n ∧ ∀ i a, l[i]? = some a → Q i a
  | 0, _ => ⟨[], rfl, fun i a h => by simp at h⟩
  | n + 1, h => by
    obtain ⟨l, hl, hq⟩ := list_of n fun i hi => h i (by omega)
    obtain ⟨a, ha⟩ := h n (by omega)
    refine ⟨l ++ [a], by simp [hl], fun i b hb => ?_⟩
    by_cases hi : i < l.length
    · rw [List.getElem?_append_left hi] at hb
      exact hq i b hb
    · rw [List.getElem?_append_right (by omega)] at hb
      have h0 : i - l.length < 1 := by have := (List.getElem?_eq_some_iff.1 hb).1; simpa using this
      have : i = n := by omega
      subst this
      rw [show i - l.length = 0 by omega] at hb
      injection hb with hb
      rw [← hb]
      exact ha
/-- a slice of structs, opened -/
theorem open_rows {α : Type} {E T : TypeId} {z : Nat} (f : α → List Value) (Ok : α → Prop) {fuel : Nat} {cs : List Value} {x : DataW H × List MemPlace}
    (ht : P.underlying T = some (.slice E)) (hz : P.cellsOf E = z) (h0 : 0 < z)
    (hopen : ∀ fuel cs y, DataW.trod enc P W 0 (fun _ => true) true fuel E cs = some y → Rows.uptoBulk y.1 ≤ N → ∃ a, cs = f a ∧ Ok a)
    (h : DataW.trod enc P W 0 (fun _ => true) true fuel T cs = some x) (hN : Rows.uptoBulk x.1 ≤ N) :
    ∃ (A : Option Addr) (n c : Nat) (l : List α), cs = [.slice A n c] ∧ Sg.Rows z W A n (l.flatMap f) ∧ l.length = n ∧ n ≤ c ∧ c ≤ N ∧ ∀ a ∈ l, Ok a := by
  rcases open_slice ht h with ⟨rfl, _⟩ | ⟨a, len, cap, m, n, D, Pl, rfl, _, hl, hm, hmm, hx, hel⟩
  · exact ⟨none, 0, 0, [], rfl, ⟨by simp, fun h => absurd h (by omega)⟩, rfl, Nat.le_refl _, Nat.zero_le _, fun a ha => by cases ha⟩
  · simp only [if_true] at hmm
    subst hmm
    rw [hx] at hN
    have hN : Rows.uptoBulk (DataW.slice ((List.range len).map D) ((List.range (m - len)).map fun j => D (len + j))) ≤ N := hN
    have hb := bulks.slice_le ((List.range len).map D) ((List.range (m - len)).map fun j => D (len + j))
    simp only [List.length_map, List.length_range] at hb
    obtain ⟨l, hll, hq⟩ := list_of (Q := fun i (b : α) => W.cells? 0 (a.add (i * z)) z = some (f b) ∧ Ok b) len fun i hi => by
      obtain ⟨cs', h1, h2⟩ := hel i (by omega)
      rw [hz] at h1
      obtain ⟨b, h3, h4⟩ := hopen _ _ _ h2 (by
        have h9 := bulks.part_le (show D i ∈ (List.range len).map D from by simp; exact ⟨i, hi, rfl⟩)
        simp only [Rows.uptoBulk] at hN
        show Rows.uptoBulk (D i) ≤ N
        omega)
      exact ⟨b, by rw [← h3]; exact h1, h4⟩
    have hfl : ∀ b ∈ l, (f b).length = z := fun b hb => by
      obtain ⟨i, hi⟩ := List.mem_iff_getElem?.1 hb
      exact (World.cells?_some (hq i b hi).1).2.1
    refine ⟨some a, len, m, l, rfl, ⟨by rw [flat_length f z l hfl, hll], fun hn => ?_⟩, hll, hl, by omega, fun b hb => by
      obtain ⟨i, hi⟩ := List.mem_iff_getElem?.1 hb
      exact (hq i b hi).2⟩
    obtain ⟨ab, ao, spot⟩ := a
    have hspot : spot = none := by
      obtain ⟨cs1, hcs1, _⟩ := hel 0 (by omega)
      rw [hz] at hcs1
      obtain ⟨_, hlen1, hcell1⟩ := World.cells?_some hcs1
      have h2 := hcell1 0 (by omega)
      rw [List.getElem?_eq_getElem (by omega)] at h2
      simpa [Addr.add] using World.cell?_spot h2
    subst hspot
    refine ⟨ab, ao, rfl, fun j hj => ?_⟩
    have hk : j / z < len := by rw [Nat.div_lt_iff_lt_mul h0]; omega
    obtain ⟨b, hb⟩ : ∃ b, l[j / z]? = some b := ⟨_, List.getElem?_eq_getElem (by omega)⟩
    obtain ⟨_, _, hcell⟩ := World.cells?_some (hq _ b hb).1
    have hmod := Nat.mod_lt j h0
    have h1 := hcell (j % z) hmod
    have hj2 : j / z * z + j % z = j := by rw [Nat.mul_comm]; exact Nat.div_add_mod j z
    have h2 := flat_get f z l hfl (j / z) (j % z) b hb hmod
    rw [hj2] at h2
    rw [h2, ← h1]
    congr 1
    rw [Addr.add_mid, Addr.add_mid]
    congr 1
    omega
theorem field_of {fs : Array Field} {n : Nat} {cs : List Value} {xs : List (DataW H × List MemPlace)} (hf : ∀ (i : Nat) (f : Field), fs[i]? = some f → DataW.trod enc P W 0 (fun _ => true) true n f.type ((cs.drop f.offset).take (P.cellsOf f.type)) = xs[i]?)
    (i t off k : Nat) (h : (fs[i]?).map (fun f => (f.type, f.offset)) = some (t, off)) (hk : P.cellsOf t = k) : DataW.trod enc P W 0 (fun _ => true) true n t ((cs.drop off).take k) = xs[i]? := by
  cases hfi : fs[i]? with
  | none => rw [hfi] at h; cases h
  | some f =>
    rw [hfi] at h
    injection h with h
    injection h with h1 h2
    have := hf i f hfi
    rw [h1, h2, hk] at this
    exact this
theorem wf_nat8 {z : Int} (h : (Lit.int .u8 z).wf = true) : ∃ n : Nat, z = n ∧ n < 256 := by
  have h1 : IntKind.u8.min = 0 := by decide
  have h2 : IntKind.u8.max = 255 := by decide
  simp [Lit.wf, h1, h2] at h
  exact ⟨z.toNat, by omega, by omega⟩
theorem wf_nat16 {z : Int} (h : (Lit.int .u16 z).wf = true) : ∃ n : Nat, z = n ∧ n < 65536 := by
  have h1 : IntKind.u16.min = 0 := by decide
  have h2 : IntKind.u16.max = 65535 := by decide
  simp [Lit.wf, h1, h2] at h
  exact ⟨z.toNat, by omega, by omega⟩
theorem wf_i64 {z : Int} (h : (Lit.int .i64 z).wf = true) : -9223372036854775808 ≤ z ∧ z ≤ 9223372036854775807 := by
  have h1 : IntKind.i64.min = -9223372036854775808 := by decide
  have h2 : IntKind.i64.max = 9223372036854775807 := by decide
  simp [Lit.wf, h1, h2] at h
  exact h
/-- an array of small numbers, opened -/
theorem open_arr {T E : TypeId} {k : IntKind} {n : Nat} {fuel : Nat} {cs : List Value} {x : DataW H × List MemPlace} (ht : P.underlying T = some (.array n E)) (he : P.underlying E = some (.int k)) (hz : P.cellsOf E = 1) (hn : P.cellsOf T = n)
    (h : DataW.trod enc P W 0 (fun _ => true) true fuel T cs = some x) : ∃ t : List Int, t.length = n ∧ cs = t.map (fun z => Value.int k z) ∧ ∀ z ∈ t, (Lit.int k z).wf = true := by
  obtain ⟨xs, m, _, _, hl, hxl, hf⟩ := DataW.trod_array ht h
  rw [hn] at hl
  obtain ⟨t, htl, hq⟩ := list_of (Q := fun i (z : Int) => cs[i]? = some (.int k z) ∧ (Lit.int k z).wf = true) n fun i hi => by
    have h1 := hf i hi
    rw [hz, Nat.mul_one, List.getElem?_eq_getElem (by omega)] at h1
    obtain ⟨z, h2, _, h3⟩ := DataW.trod_int he h1
    refine ⟨z, ?_, h3⟩
    rw [List.drop_eq_getElem_cons (by omega)] at h2
    injection h2 with h2 _
    rw [List.getElem?_eq_getElem (by omega), h2]
  refine ⟨t, htl, List.ext_getElem? fun i => ?_, fun z hz => ?_⟩
  · by_cases hi : i < n
    · have h1 := (hq i _ (List.getElem?_eq_getElem (show i < t.length by omega))).1
      rw [h1, List.getElem?_map, List.getElem?_eq_getElem (by omega)]
      rfl
    · rw [List.getElem?_eq_none (by omega), List.getElem?_eq_none (by simp; omega)]
  · obtain ⟨i, hi⟩ := List.mem_iff_getElem?.1 hz
    exact (hq i z hi).2
theorem nats8 : ∀ t : List Int, (∀ z ∈ t, (Lit.int .u8 z).wf = true) → ∃ l : List Nat, l.length = t.length ∧ t.map (fun z => Value.int .u8 z) = u8s l ∧ ∀ x ∈ l, x < 256
  | [], _ => ⟨[], rfl, rfl, fun x h => by cases h⟩
  | z :: t, h => by
    obtain ⟨n, rfl, hn⟩ := wf_nat8 (h z (by simp))
    obtain ⟨l, h1, h2, h3⟩ := nats8 t fun x hx => h x (by simp [hx])
    refine ⟨n :: l, by simp [h1], ?_, fun x hx => ?_⟩
    · rw [List.map_cons, h2]; rfl
    · rcases List.mem_cons.1 hx with rfl | hx
      · exact hn
      · exact h3 x hx
theorem nats16 : ∀ t : List Int, (∀ z ∈ t, (Lit.int .u16 z).wf = true) → ∃ l : List Nat, l.length = t.length ∧ t.map (fun z => Value.int .u16 z) = l.map (fun (n : Nat) => Value.int .u16 (n : Int)) ∧ ∀ x ∈ l, x < 65536
  | [], _ => ⟨[], rfl, rfl, fun x h => by cases h⟩
  | z :: t, h => by
    obtain ⟨n, rfl, hn⟩ := wf_nat16 (h z (by simp))
    obtain ⟨l, h1, h2, h3⟩ := nats16 t fun x hx => h x (by simp [hx])
    refine ⟨n :: l, by simp [h1], ?_, fun x hx => ?_⟩
    · rw [List.map_cons, h2]; rfl
    · rcases List.mem_cons.1 hx with rfl | hx
      · exact hn
      · exact h3 x hx
end
theorem cN_comp : Tryz.prog.cellsOf 90 = 4 := by kernel_rfl
theorem cN_part : Tryz.prog.cellsOf 92 = 3 := by kernel_rfl
theorem cN_quant : Tryz.prog.cellsOf 81 = 66 := by kernel_rfl
theorem cN_huff : Tryz.prog.cellsOf 87 = 19 := by kernel_rfl
theorem cN_spec : Tryz.prog.cellsOf 85 = 17 := by kernel_rfl
theorem cN_frame : Tryz.prog.cellsOf 27 = 4 := by kernel_rfl
theorem cN_seg : Tryz.prog.cellsOf 31 = 13 := by kernel_rfl
theorem cN_c16 : Tryz.prog.cellsOf 83 = 16 := by kernel_rfl
theorem cN_t64 : Tryz.prog.cellsOf 79 = 64 := by kernel_rfl
theorem cN_8 : Tryz.prog.cellsOf 5 = 1 := by kernel_rfl
theorem cN_16 : Tryz.prog.cellsOf 78 = 1 := by kernel_rfl
theorem cN_b : Tryz.prog.cellsOf 4 = 1 := by kernel_rfl
theorem cN_i : Tryz.prog.cellsOf 3 = 1 := by kernel_rfl
theorem cN_s : Tryz.prog.cellsOf 9 = 1 := by kernel_rfl
theorem cN_sq : Tryz.prog.cellsOf 23 = 1 := by kernel_rfl
theorem cN_sh : Tryz.prog.cellsOf 24 = 1 := by kernel_rfl
theorem cN_sc : Tryz.prog.cellsOf 25 = 1 := by kernel_rfl
theorem cN_sp : Tryz.prog.cellsOf 28 = 1 := by kernel_rfl
theorem cN_s8 : Tryz.prog.cellsOf 29 = 1 := by kernel_rfl
section
variable {H : Type} {enc : TypeId × Value → H} {W : World} {N : Nat}
theorem take_one {cs : List Value} {k : Nat} {v : Value} (h : (cs.drop k).take 1 = [v]) : cs[k]? = some v := by
  cases hd : cs.drop k with
  | nil => rw [hd] at h; cases h
  | cons a l =>
    rw [hd] at h
    injection h with h _
    have h9 : (cs.drop k)[0]? = some a := by rw [hd]; rfl
    rw [List.getElem?_drop, Nat.add_zero] at h9
    rw [h9, h]
set_option maxRecDepth 100000 in
theorem open_comp {fuel : Nat} {cs : List Value} {x : DataW H × List MemPlace} (h : DataW.trod enc Tryz.prog W 0 (fun _ => true) true fuel 90 cs = some x) : ∃ c : CompM, cs = compC c ∧ (c.id < 256 ∧ c.h < 256 ∧ c.v < 256 ∧ c.q < 256) := by
  obtain ⟨xs, n, _, _, hl, hxl, hf⟩ := DataW.trod_struct Tryz.underlying90 h
  rw [cN_comp] at hl
  have g : ∀ i, i < 4 → ∃ k : Nat, cs[i]? = some (.int .u8 (k : Int)) ∧ k < 256 := fun i hi => by
    have h1 : DataW.trod enc Tryz.prog W 0 (fun _ => true) true n 5 ((cs.drop i).take 1) = xs[i]? := by
      rcases (show i = 0 ∨ i = 1 ∨ i = 2 ∨ i = 3 by omega) with rfl | rfl | rfl | rfl
      · exact field_of hf 0 5 0 _ rfl cN_8
      · exact field_of hf 1 5 1 _ rfl cN_8
      · exact field_of hf 2 5 2 _ rfl cN_8
      · exact field_of hf 3 5 3 _ rfl cN_8
    rw [List.getElem?_eq_getElem (by rw [hxl]; exact hi)] at h1
    obtain ⟨z, h2, _, h3⟩ := DataW.trod_int Tryz.underlying5 h1
    obtain ⟨k, rfl, hk⟩ := wf_nat8 h3
    exact ⟨k, take_one h2, hk⟩
  obtain ⟨a, ha, ha2⟩ := g 0 (by decide)
  obtain ⟨b, hb, hb2⟩ := g 1 (by decide)
  obtain ⟨c, hc, hc2⟩ := g 2 (by decide)
  obtain ⟨d, hd, hd2⟩ := g 3 (by decide)
  match cs, hl, ha, hb, hc, hd with
  | [c0, c1, c2, c3], _, ha, hb, hc, hd =>
    simp at ha hb hc hd
    subst ha hb hc hd
    exact ⟨⟨a, b, c, d⟩, rfl, ha2, hb2, hc2, hd2⟩
set_option maxRecDepth 100000 in
theorem open_part {fuel : Nat} {cs : List Value} {x : DataW H × List MemPlace} (h : DataW.trod enc Tryz.prog W 0 (fun _ => true) true fuel 92 cs = some x) : ∃ c : PartM, cs = partC c ∧ ((Lit.int .i64 c.comp).wf = true ∧ c.dc < 256 ∧ c.ac < 256) := by
  obtain ⟨xs, n, _, _, hl, hxl, hf⟩ := DataW.trod_struct Tryz.underlying92 h
  rw [cN_part] at hl
  have g0 := field_of hf 0 3 0 _ rfl cN_i
  have g1 := field_of hf 1 5 1 _ rfl cN_8
  have g2 := field_of hf 2 5 2 _ rfl cN_8
  rw [List.getElem?_eq_getElem (by rw [hxl]; decide)] at g0 g1 g2
  obtain ⟨z, h2, _, h3⟩ := DataW.trod_int Tryz.underlying3 g0
  obtain ⟨z1, h4, _, h5⟩ := DataW.trod_int Tryz.underlying5 g1
  obtain ⟨z2, h6, _, h7⟩ := DataW.trod_int Tryz.underlying5 g2
  obtain ⟨k1, rfl, hk1⟩ := wf_nat8 h5
  obtain ⟨k2, rfl, hk2⟩ := wf_nat8 h7
  have e0 := take_one h2
  have e1 := take_one h4
  have e2 := take_one h6
  match cs, hl, e0, e1, e2 with
  | [c0, c1, c2], _, e0, e1, e2 =>
    simp at e0 e1 e2
    subst e0 e1 e2
    exact ⟨⟨z, k1, k2⟩, rfl, h3, hk1, hk2⟩
set_option maxRecDepth 100000 in
theorem open_quant {fuel : Nat} {cs : List Value} {x : DataW H × List MemPlace} (h : DataW.trod enc Tryz.prog W 0 (fun _ => true) true fuel 81 cs = some x) : ∃ q : QuantM, cs = quantC q ∧ QuantOk q := by
  obtain ⟨xs, n, _, _, hl, hxl, hf⟩ := DataW.trod_struct Tryz.underlying81 h
  rw [cN_quant] at hl
  have g0 := field_of hf 0 5 0 _ rfl cN_8
  have g1 := field_of hf 1 4 1 _ rfl cN_b
  have g2 := field_of hf 2 79 2 _ rfl cN_t64
  rw [List.getElem?_eq_getElem (by rw [hxl]; decide)] at g0 g1 g2
  obtain ⟨z, h2, _, h3⟩ := DataW.trod_int Tryz.underlying5 g0
  obtain ⟨b, h4, _⟩ := DataW.trod_bool Tryz.underlying4 g1
  obtain ⟨t, h5, h6, h7⟩ := open_arr Tryz.underlying79 Tryz.underlying78 cN_16 cN_t64 g2
  obtain ⟨k, rfl, hk⟩ := wf_nat8 h3
  obtain ⟨l, h8, h9, h10⟩ := nats16 t h7
  have e0 := take_one h2
  have e1 := take_one h4
  match cs, hl, e0, e1, h6 with
  | c0 :: c1 :: r, hl, e0, e1, h6 =>
    simp at e0 e1
    subst e0 e1
    have hr : r.length = 64 := by simpa using hl
    rw [List.drop_succ_cons, List.drop_succ_cons, List.drop_zero, List.take_of_length_le (by omega)] at h6
    exact ⟨⟨k, b, l⟩, by rw [h6, h9]; rfl, hk, by show l.length = 64; omega, h10⟩
theorem flat_u8 (l : List Nat) : l.flatMap (fun (n : Nat) => [Value.int .u8 (n : Int)]) = u8s l := by
  induction l with
  | nil => rfl
  | cons a l ih => rw [List.flatMap_cons, ih]; rfl
set_option maxRecDepth 100000 in
theorem open_u8s {fuel : Nat} {cs : List Value} {x : DataW H × List MemPlace} (h : DataW.trod enc Tryz.prog W 0 (fun _ => true) true fuel 29 cs = some x) (hN : Rows.uptoBulk x.1 ≤ N) : ∃ A c t, cs = [.slice A t.length c] ∧ Sl W A t.length (u8s t) ∧ t.length ≤ N ∧ ∀ x ∈ t, x < 256 := by
  obtain ⟨A, n, c, l, rfl, hr, hl, h1, h2, h3⟩ := open_rows (N := N) (fun (n : Nat) => [Value.int .u8 (n : Int)]) (fun n => n < 256) Tryz.underlying29 cN_8 (by decide) (fun fuel cs y hy _ => by
    obtain ⟨z, h2, _, h3⟩ := DataW.trod_int Tryz.underlying5 hy
    obtain ⟨k, rfl, hk⟩ := wf_nat8 h3
    exact ⟨k, h2, hk⟩) h hN
  subst hl
  rw [flat_u8] at hr
  refine ⟨A, c, l, rfl, ⟨u8s_length l, fun hn => ?_⟩, by omega, h3⟩
  obtain ⟨b, o, e1, e2⟩ := hr.2 hn
  exact ⟨b, o, e1, fun j hj => e2 j (by omega)⟩
set_option maxRecDepth 100000 in
theorem open_huff {fuel : Nat} {cs : List Value} {x : DataW H × List MemPlace} (h : DataW.trod enc Tryz.prog W 0 (fun _ => true) true fuel 87 cs = some x) (hN : Rows.uptoBulk x.1 ≤ N) (hN2 : N ≤ 1048576) : ∃ p : HuffM × Value, cs = huffC p ∧ (HuffOk p.1 ∧ SlB W p.2 p.1.vals ∧ p.1.vals.length ≤ N) := by
  obtain ⟨xs, n, _, hx, hl, hxl, hf⟩ := DataW.trod_struct Tryz.underlying87 h
  rw [cN_huff] at hl
  have g0 := field_of hf 0 5 0 _ rfl cN_8
  have g1 := field_of hf 1 5 1 _ rfl cN_8
  have g2 := field_of hf 2 85 2 _ rfl cN_spec
  rw [List.getElem?_eq_getElem (by rw [hxl]; decide)] at g0 g1 g2
  obtain ⟨z0, h2, _, h3⟩ := DataW.trod_int Tryz.underlying5 g0
  obtain ⟨z1, h4, _, h5⟩ := DataW.trod_int Tryz.underlying5 g1
  obtain ⟨k0, rfl, hk0⟩ := wf_nat8 h3
  obtain ⟨k1, rfl, hk1⟩ := wf_nat8 h5
  have hb2 : Rows.uptoBulk (xs[2]'(by rw [hxl]; decide)).1 ≤ N := by
    rw [hx] at hN
    have hN : Rows.uptoBulk (DataW.agg (xs.map (·.1))) ≤ N := hN
    have := bulks.agg_le (show (xs[2]'(by rw [hxl]; decide)).1 ∈ xs.map (·.1) from List.mem_map_of_mem (List.getElem_mem _))
    omega
  obtain ⟨ys, n2, _, hy, hl2, hyl, hf2⟩ := DataW.trod_struct Tryz.underlying85 g2
  rw [cN_spec] at hl2
  have f0 := field_of hf2 0 83 0 _ rfl cN_c16
  have f1 := field_of hf2 1 29 16 _ rfl cN_s8
  rw [List.getElem?_eq_getElem (by rw [hyl]; decide)] at f0 f1
  obtain ⟨t, h6, h7, h8⟩ := open_arr Tryz.underlying83 Tryz.underlying5 cN_8 cN_c16 f0
  obtain ⟨cnt, h9, h10, h11⟩ := nats8 t h8
  obtain ⟨A, c, v, h12, h13, h14, h15⟩ := open_u8s (N := N) f1 (by
    rw [hy] at hb2
    have hb2 : Rows.uptoBulk (DataW.agg (ys.map (·.1))) ≤ N := hb2
    have := bulks.agg_le (show (ys[1]'(by rw [hyl]; decide)).1 ∈ ys.map (·.1) from List.mem_map_of_mem (List.getElem_mem _))
    omega)
  have e0 := take_one h2
  have e1 := take_one h4
  match cs, hl, e0, e1, h7, h12 with
  | c0 :: c1 :: r, hl, e0, e1, h7, h12 =>
    simp at e0 e1
    subst e0 e1
    have hr : r.length = 17 := by simpa using hl
    simp only [List.drop_succ_cons, List.drop_zero] at h7 h12
    rw [List.take_of_length_le (show r.length ≤ 17 by omega)] at h7 h12
    have e2 := take_one h12
    rw [h10] at h7
    have hr2 : r = u8s cnt ++ [.slice A v.length c] := by
      rw [← h7]
      apply List.ext_getElem?
      intro i
      by_cases hi : i < 16
      · rw [List.getElem?_append_left (by simp; omega), List.getElem?_take, if_pos hi]
      · rw [List.getElem?_append_right (by simp; omega)]
        by_cases hi2 : i = 16
        · subst hi2
          rw [e2]
          simp [hr]
        · rw [List.getElem?_eq_none (by omega), List.getElem?_eq_none (by simp; omega)]
    exact ⟨(⟨k0, k1, cnt, v⟩, .slice A v.length c), by rw [hr2]; rfl, ⟨hk0, hk1, by show cnt.length = 16; omega, h11, h15, by show v.length ≤ _; omega⟩, ⟨A, c, rfl, h13, trivial⟩, h14⟩
set_option maxRecDepth 100000 in
set_option maxHeartbeats 1000000 in
/-- A SEGMENT, OPENED -/
theorem open_seg {fuel : Nat} {cs : List Value} {x : DataW H × List MemPlace} (h : DataW.trod enc Tryz.prog W 0 (fun _ => true) true fuel 31 cs = some x) (hN : Rows.uptoBulk x.1 ≤ N) (hN2 : N ≤ 1048576) :
    ∃ m vq vh vc vp vi, cs = (segC m vq vh vc vp vi).toList ∧ SegAt W m vq vh vc vp vi ∧ SegOk m ∧ (∀ h ∈ m.huffs, h.vals.length ≤ N) ∧ (∀ p ∈ m.parts, (Lit.int .i64 p.comp).wf = true) ∧ m.data.length ≤ N := by
  obtain ⟨xs, n, _, hx, hl, hxl, hf⟩ := DataW.trod_struct Tryz.underlying31 h
  rw [cN_seg] at hl
  have hb : ∀ i, ∀ hi : i < xs.length, Rows.uptoBulk (xs[i]'hi).1 ≤ N := fun i hi => by
    rw [hx] at hN
    have hN : Rows.uptoBulk (DataW.agg (xs.map (·.1))) ≤ N := hN
    have := bulks.agg_le (show (xs[i]'hi).1 ∈ xs.map (·.1) from List.mem_map_of_mem (List.getElem_mem _))
    omega
  have hxl : xs.length = 10 := hxl
  have g0 := field_of hf 0 5 0 _ rfl cN_8
  have g1 := field_of hf 1 3 1 _ rfl cN_i
  have g2 := field_of hf 2 3 2 _ rfl cN_i
  have g3 := field_of hf 3 23 3 _ rfl cN_sq
  have g4 := field_of hf 4 24 4 _ rfl cN_sh
  have g5 := field_of hf 5 27 5 _ rfl cN_frame
  have g6 := field_of hf 6 28 9 _ rfl cN_sp
  have g7 := field_of hf 7 29 10 _ rfl cN_s8
  have g8 := field_of hf 8 3 11 _ rfl cN_i
  have g9 := field_of hf 9 9 12 _ rfl cN_s
  rw [List.getElem?_eq_getElem (by omega)] at g0 g1 g2 g3 g4 g5 g6 g7 g8 g9
  obtain ⟨z0, a0, _, w0⟩ := DataW.trod_int Tryz.underlying5 g0
  obtain ⟨code, rfl, hcode⟩ := wf_nat8 w0
  obtain ⟨at_, a1, _, w1⟩ := DataW.trod_int Tryz.underlying3 g1
  obtain ⟨end_, a2, _, w2⟩ := DataW.trod_int Tryz.underlying3 g2
  obtain ⟨Aq, nq, cq, lq, a3, rq, rfl, _, bq, oq⟩ := open_rows (N := N) quantC QuantOk Tryz.underlying23 cN_quant (by decide) (fun fuel cs y hy _ => open_quant hy) g3 (hb 3 _)
  obtain ⟨Ah, nh, ch, lh, a4, rh, rfl, _, bh, oh⟩ := open_rows (N := N) huffC (fun p => HuffOk p.1 ∧ SlB W p.2 p.1.vals ∧ p.1.vals.length ≤ N) Tryz.underlying24 cN_huff (by decide) (fun fuel cs y hy hy2 => open_huff hy hy2 hN2) g4 (hb 4 _)
  obtain ⟨ys, n2, _, hy, hl2, hyl, hf2⟩ := DataW.trod_struct Tryz.underlying27 g5
  rw [cN_frame] at hl2
  have hyl : ys.length = 4 := hyl
  have f0 := field_of hf2 0 5 0 _ rfl cN_8
  have f1 := field_of hf2 1 3 1 _ rfl cN_i
  have f2 := field_of hf2 2 3 2 _ rfl cN_i
  have f3 := field_of hf2 3 25 3 _ rfl cN_sc
  rw [List.getElem?_eq_getElem (by omega)] at f0 f1 f2 f3
  have hb5 := hb 5 (by omega)
  rw [hy] at hb5
  have hb5 : Rows.uptoBulk (DataW.agg (ys.map (·.1))) ≤ N := hb5
  obtain ⟨z5, a5, _, w5⟩ := DataW.trod_int Tryz.underlying5 f0
  obtain ⟨kind, rfl, hkind⟩ := wf_nat8 w5
  obtain ⟨wd, a6, _, w6⟩ := DataW.trod_int Tryz.underlying3 f1
  obtain ⟨ht, a7, _, w7⟩ := DataW.trod_int Tryz.underlying3 f2
  obtain ⟨Ac, nc, cc, lc, a8, rc, rfl, hcc, bc, oc⟩ := open_rows (N := N) compC (fun c => c.id < 256 ∧ c.h < 256 ∧ c.v < 256 ∧ c.q < 256) Tryz.underlying25 cN_comp (by decide) (fun fuel cs y hy _ => open_comp hy) f3 (by
    have := bulks.agg_le (show (ys[3]'(by omega)).1 ∈ ys.map (·.1) from List.mem_map_of_mem (List.getElem_mem _))
    omega)
  obtain ⟨Ap, np, cp, lp, a9, rp, rfl, _, bp, op⟩ := open_rows (N := N) partC (fun c => (Lit.int .i64 c.comp).wf = true ∧ c.dc < 256 ∧ c.ac < 256) Tryz.underlying28 cN_part (by decide) (fun fuel cs y hy _ => open_part hy) g6 (hb 6 _)
  obtain ⟨Ai, ci, li, a10, ri, bi, oi⟩ := open_u8s (N := N) g7 (hb 7 _)
  obtain ⟨rs, a11, _, w11⟩ := DataW.trod_int Tryz.underlying3 g8
  obtain ⟨s, a12, hs, _⟩ := DataW.trod_string Tryz.underlying9 g9
  have hb9 := hb 9 (by omega)
  rw [hs] at hb9
  simp only [Rows.uptoBulk] at hb9
  have e0 := take_one a0
  have e1 := take_one a1
  have e2 := take_one a2
  have e3 := take_one a3
  have e4 := take_one a4
  have e9 := take_one a9
  have e10 := take_one a10
  have e11 := take_one a11
  have e12 := take_one a12
  have k5 := take_one a5
  have k6 := take_one a6
  have k7 := take_one a7
  have k8 := take_one a8
  match cs, hl, e0, e1, e2, e3, e4, e9, e10, e11, e12, k5, k6, k7, k8 with
  | [c0, c1, c2, c3, c4, c5, c6, c7, c8, c9, c10, c11, c12], _, e0, e1, e2, e3, e4, e9, e10, e11, e12, k5, k6, k7, k8 =>
    simp at e0 e1 e2 e3 e4 e9 e10 e11 e12 k5 k6 k7 k8
    subst e0 e1 e2 e3 e4 e9 e10 e11 e12 k5 k6 k7 k8
    refine ⟨⟨code, at_, end_, lq, lh.map (·.1), kind, wd, ht, lc, lp, li, rs, s.data.toList⟩, .slice Aq lq.length cq, .slice Ah lh.length ch, .slice Ac lc.length cc, .slice Ap lp.length cp, .slice Ai li.length ci, ?_, ?_, ?_, ?_, fun p hp => (op p hp).1, by show s.data.toList.length ≤ N; omega⟩
    · simp [segC, Bs_data]
    · exact ⟨⟨Aq, cq, rfl, rq⟩, ⟨Ah, ch, lh, by simp, rfl, by simpa using rh, fun p hp => (oh p hp).2.1⟩, ⟨Ac, cc, rfl, rc, hcc⟩, ⟨Ap, cp, rfl, rp⟩, ⟨Ai, ci, rfl, ri⟩⟩
    · refine ⟨hcode, hkind, oq, fun h hh => ?_, oc, fun p hp => (op p hp).2, oi, by show lq.length ≤ _; omega, by show (lh.map (·.1)).length ≤ _; rw [List.length_map]; omega, by show lc.length ≤ _; omega, by show lp.length ≤ _; omega, by show li.length ≤ _; omega, by show s.data.toList.length ≤ _; omega, wf_i64 w11⟩
      obtain ⟨p, hp, rfl⟩ := List.mem_map.1 hh
      exact (oh p hp).1
    · intro h hh
      obtain ⟨p, hp, rfl⟩ := List.mem_map.1 hh
      exact (oh p hp).2.2
end
end Go.Proofs.YtjfgfoeenajneaaGreatDoor.Sg
namespace Go.Proofs.YtjfgfoeenajneaaGreatDoor.LiftL
open Go.ChangeShapes Go.WideShapes Go.ChangeAt Go.RowKit

theorem own : ownKnob Tryz.prog.godebug = none := by kernel_rfl
theorem laidOut : laidOutB Tryz.prog = true := by kernel_rfl
theorem et : Tryz.prog.globalNamed "errors.errorType" = some 0 := by kernel_rfl
theorem rt : (Tryz.prog.cutTypes.find? (·.1 == "internal/reflectlite.rtype")).map (·.2) = some 177 := by kernel_rfl
theorem oneRow : ((List.range Tryz.prog.types.size).filter fun t => Tryz.prog.rowNamed t [101, 114, 114, 111, 114]) = [38] := by kernel_rfl
abbrev LD : List (String × DataW Unit) := [("errors.errorType", Rows.laid_errors_errorType)]
/-- what the condition gives a walk: the variable's one cell -/
theorem handle_of_laid {W : World} (h : laidMetH Tryz.prog LD W) : Sg.ErrT W := by
  have h' : laidMet Tryz.prog [] W ∧ handlesMet Tryz.prog LD W := h
  obtain ⟨name, u, ty, e1, e2, e3, e4, e5⟩ := h'.2 _ (List.mem_singleton.2 rfl)
  have en : name = [101, 114, 114, 111, 114] := (Option.some.inj e1).symm
  subst en
  obtain rfl := Option.some.inj (rt.symm.trans e2)
  have hm : ty ∈ (List.range Tryz.prog.types.size).filter fun t => Tryz.prog.rowNamed t [101, 114, 114, 111, 114] := List.mem_filter.2 ⟨List.mem_range.2 e3, e4⟩
  rw [oneRow] at hm
  obtain rfl := List.mem_singleton.1 hm
  have hh : typeHandle Tryz.prog 38 = .pointer (some ⟨1, 38, none⟩) := by kernel_rfl
  rw [hh] at e5
  show W.cell? ⟨0, 0, none⟩ = _
  simpa using World.var?_cell et e5 0
/-- a world that meets the condition: the settled one, the variable's cell laid -/
noncomputable def laidWorld (os : Os) : World :=
  let w0 := World.holding Tryz.prog os ⟨#[], #[], []⟩
  { w0 with heap := w0.heap.modify 0 fun
      | .cells _ t frozen => .cells #[.iface 177 (.agg #[.pointer (some ⟨1, 38, none⟩)])] t frozen
      | o => o }
theorem laidWorld_met (os : Os) (args : Array Value) : laidMetH Tryz.prog LD ((laidWorld os).forCall (fun _ _ => 0) ⟨#[], args, []⟩).memory :=
  laidMetH_of_parts (laidMet_nil _ _) (by kernel_rfl)

set_option maxRecDepth 100000 in
theorem lift {H : Type} {enc : TypeId × Value → H} {os : Os} {f : FuncId} {fn : Func} {s : ChangeSpec} {tb : TypeId} {F : Stop.Interp}
    (started : os.Started) (noInit : Tryz.checked.prog.inits.idxOf? f = none) (hfn : Tryz.checked.prog.funcs[f]? = some fn)
    (hvars : s.vars = []) (hrt : fn.resultTypes = #[tb]) (htb : Tryz.checked.prog.underlying tb = some .bool) (hl : laidOutB Tryz.checked.prog = true)
    (hread : (fn.params.toList.all fun t => Tryz.checked.prog.readableRec t && decide (t < Tryz.checked.prog.types.size)) = true) (hspec : Lift.Says s fn.params.size)
    (witness : ∃ (w : World) (tape : Tape) (i : Input), w.os = os ∧ (w.forCall tape i).Shaped Tryz.checked.prog ∧ i.vars = [] ∧ Input.okWide Tryz.checked.prog (w.forCall tape i) .any w.heap.size f i ∧
      (Rows.OpenSpec.upto s).preRow enc Tryz.checked.prog fn [] false LD (w.forCall tape i).memory i.args ∧ ({} : Assume).holds Tryz.checked.prog (lone (Frame.enter Tryz.checked.prog f i.args .normal) [] (w.forCall tape i)))
    (walk : ∀ (W : World) (args : Array Value) (ds : List (DataW H)) (p : List MemPlace), Lift.Given Tryz.checked.prog fn W args H enc ds p → Rows.uptoBulkAll ds ≤ 1048576 → Sg.ErrT W →
      Calls Tryz.checked.prog f args W fun e W' => e = .returned (.bool true) ∧ Below W.heap.size W W') :
    ReturnsInHanded {} Tryz.checked os f .any ((Rows.OpenSpec.upto s).preRow enc Tryz.checked.prog fn [] false LD) (((Rows.OpenSpec.upto s).at F).post enc Tryz.checked.prog fn false true false false) := by
  refine returnsInHanded_of_row (C := Tryz.checked) (s := Rows.OpenSpec.upto s) own started noInit hfn witness ?_
  intro W base args ds gs before hval hW _ hk hwt hL _ _
  have hW' := hW
  obtain ⟨p, q, hA, hV, rfl, hfz, hnd⟩ := hW
  have hV' := hV
  rw [show (Rows.OpenSpec.upto s).vars = [] from hvars] at hV'
  obtain ⟨rfl, rfl⟩ := trodVars_none hV'
  have ht : (Rows.OpenSpec.upto s).bare.plain.varTypes Tryz.checked.prog = [] := by
    have : (Rows.OpenSpec.upto s).bare.plain.vars = [] := hvars
    simp [DataSpec.varTypes, this]
  rw [ht] at hwt
  have hk2 := hk _ rfl
  simp only [List.append_nil] at hwt hfz hW' hk2
  refine (walk W args ds p ⟨⟨base, hval⟩, hA, hfz, hwt⟩ (bulks.bound hk2) (handle_of_laid hL)).mono fun e W' ⟨he, hb⟩ => ?_
  exact ⟨_, he, Lift.post_true (s := s) hvars hrt htb hl hread hspec hW' hb⟩
end Go.Proofs.YtjfgfoeenajneaaGreatDoor.LiftL
