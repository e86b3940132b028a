/- Opening arguments: a slice of calls (structs of eight ints and a slice of ints): its cells, and how long its slices may be. -/
import Derived.Test.YtlbocfinjlkebaaOpenS
import Derived.Test.YtlbocfinjlkebaaScm
import Derived.SizedLaws
import Derived.Laws.Cover2
namespace Go.Proofs.Ytlbocfinjlkebaa.Open
open Go.ChangeShapes Go.WideShapes Go.ChangeAt Go.RowKit Go.Deep

section
variable {H : Type} {enc : TypeId × Value → H} {P : Program} {w : World} {base : Nat} {spare : Nat → Bool} {held : Bool}
theorem trod_int {t : TypeId} {k : IntKind} {fuel : Nat} {cs : List Value} {x : DataW H × List MemPlace} (ht : P.underlying t = some (.int k)) (h : DataW.trod enc P w base spare held fuel t cs = some x) : ∃ z, cs = [.int k z] ∧ (Lit.int k z).wf = true := by
  cases fuel with
  | zero => simp [DataW.trod] at h
  | succ n =>
    unfold DataW.trod at h
    rw [ht] at h
    split at h <;> simp_all
theorem weights_all_mem {e : TypeId} {d : DataW H} {q : Nat} : ∀ {l : List (DataW H)}, d ∈ l → q ∈ d.weights P e → q ∈ DataW.weightsAll P e l
  | a :: l, h, hq => by
    simp only [DataW.weightsAll, List.mem_append]
    rcases List.mem_cons.1 h with rfl | h
    · exact .inl hq
    · exact .inr (weights_all_mem h hq)
/-- the length of a slice is bounded by what it weighs -/
theorem slice_weight {t e : TypeId} {fuel : Nat} {A : Option Addr} {n c : Nat} {x : DataW H × List MemPlace} (ht : P.underlying t = some (.slice e)) (h : DataW.trod enc P w base spare held fuel t [.slice A n c] = some x)
    (hw : ∀ q ∈ x.1.weights P t, q ≤ reachBytes) : n * P.bytesOf e ≤ reachBytes := by
  rcases DataW.trod_slice ht h with ⟨hc, _⟩ | ⟨a, len, cap, elems, rest, m, _, hc, rfl, _, _, _, hlen, _⟩
  · simp at hc
    obtain ⟨_, rfl, _⟩ := hc
    simp
  · simp at hc
    obtain ⟨_, rfl, _⟩ := hc
    have := hw ((elems.length + rest.length) * P.bytesOf e) (by simp [DataW.weights, ht])
    rw [hlen, Nat.add_mul] at this
    omega
end

theorem op_fields : ∃ fs, Try.prog.underlying 119 = some (.struct fs) ∧ fs.size = 9 ∧ (∀ j f, fs[j]? = some f → f.offset = j ∧ Try.prog.cellsOf f.type = 1 ∧ f.type = if j = 8 then 50 else 3) := by
  refine ⟨_, Try.underlying119, rfl, fun j f hf => ?_⟩
  have key : ∀ (fs : List Field) (i : Nat), (fs.zipIdx i).all (fun (f, k) => f.offset == k && Try.prog.cellsOf f.type == 1 && f.type == (if k = 8 then 50 else 3)) = true → ∀ j f, fs[j]? = some f → f.offset = i + j ∧ Try.prog.cellsOf f.type = 1 ∧ f.type = if i + j = 8 then 50 else 3 := by
    intro fs
    induction fs with
    | nil => intro i _ j f h; simp at h
    | cons a l ih =>
      intro i h j f hj
      simp only [List.zipIdx_cons, List.all_cons, Bool.and_eq_true, beq_iff_eq] at h
      cases j with
      | zero =>
        simp at hj
        subst hj
        exact ⟨h.1.1.1, h.1.1.2, h.1.2⟩
      | succ j =>
        have := ih (i + 1) h.2 j f (by simpa using hj)
        rw [show i + (j + 1) = i + 1 + j by omega]
        exact this
  have h := key _ 0 (by kernel_rfl) j f (by rw [Array.getElem?_toList]; exact hf)
  simpa using h
theorem cells9 : Try.prog.cellsOf 119 = 9 := by kernel_rfl
theorem cInt' : Try.prog.cellsOf 3 = 1 := by kernel_rfl
theorem bInt' : Try.prog.bytesOf 3 = 8 := by kernel_rfl

set_option maxRecDepth 100000 in
set_option maxHeartbeats 1000000 in
theorem open_ops {H : Type} {enc : TypeId × Value → H} {w : World} {base : Nat} {fuel : Nat} {u : Value} {x : DataW H × List MemPlace} (h : DataW.trod enc Try.prog w base (fun _ => true) true fuel 111 [u] = some x)
    (hw : ∀ q ∈ x.1.weights Try.prog 111, q ≤ reachBytes) : ∃ A n c, u = .slice A n c ∧ n ≤ c ∧ c ≤ maxLen ∧ Scr.Ops w A n := by
  rcases open_slice Try.underlying111 h with ⟨hc, _⟩ | ⟨a, len, cap, m, n, D, Pl, hc, _, hl, hm, hmm, hx, hel⟩
  · simp at hc
    subst hc
    exact ⟨none, 0, 0, rfl, Nat.le_refl _, Nat.zero_le _, fun i hi => by omega⟩
  · simp at hc
    subst hc
    refine ⟨some a, len, cap, rfl, hl, hm, fun i hi => ?_⟩
    simp only [if_true] at hmm
    subst hmm
    obtain ⟨cs, hcs, hy⟩ := hel i (by omega)
    rw [cells9] at hcs
    obtain ⟨_, hlen, hcell⟩ := World.cells?_some hcs
    obtain ⟨fs, hfs, hsz, hfld⟩ := op_fields
    obtain ⟨xs, k, _, hxx, _, hxl, hf⟩ := DataW.trod_struct hfs hy
    obtain ⟨ab, ao, spot⟩ := a
    have h0 := hcell 0 (by omega)
    rw [List.getElem?_eq_getElem (by omega)] at h0
    have hspot : spot = none := by
      have h1 := World.cell?_spot h0
      unfold Addr.add at h1
      by_cases hi0 : i * 9 = 0
      · rw [if_pos hi0] at h1
        simpa using h1
      · -- the first element's first cell
        obtain ⟨cs1, hcs1, _⟩ := hel 0 (by omega)
        rw [cells9] at hcs1
        obtain ⟨_, hlen1, hcell1⟩ := World.cells?_some hcs1
        have h2 := hcell1 0 (by omega)
        rw [List.getElem?_eq_getElem (by omega)] at h2
        simpa [Addr.add] using World.cell?_spot h2
    subst hspot
    have hadd : ∀ j, ((⟨ab, ao, none⟩ : Addr).add (i * 9)).add j = ⟨ab, ao + i * 9 + j, none⟩ := fun j => by
      rw [add_add]
      unfold Addr.add
      split <;> simp_all <;> omega
    have hfield : ∀ j, j < 9 → ∃ v y, cs[j]? = some v ∧ xs[j]? = some y ∧ DataW.trod enc Try.prog w base (fun _ => true) true k (if j = 8 then 50 else 3) [v] = some y := fun j hj => by
      obtain ⟨f, hf0⟩ : ∃ f, fs[j]? = some f := ⟨_, Array.getElem?_eq_getElem (by omega)⟩
      obtain ⟨f1, f2, f3⟩ := hfld j f hf0
      have g := hf j f hf0
      rw [f1, f2, take1_drop cs j undef (by omega), f3] at g
      have hx1 : xs[j]? = some (xs[j]'(by omega)) := List.getElem?_eq_getElem _
      refine ⟨cs[j]'(by omega), xs[j]'(by omega), List.getElem?_eq_getElem _, hx1, ?_⟩
      rw [← hx1, ← g, List.getD_eq_getElem?_getD, List.getElem?_eq_getElem (by omega)]
      rfl
    have hint : ∀ j, j < 8 → ∃ z, cs[j]? = some (.int .i64 z) ∧ (Lit.int .i64 z).wf = true := fun j hj => by
      obtain ⟨v, y, h1, _, h2⟩ := hfield j (by omega)
      rw [if_neg (by omega)] at h2
      obtain ⟨z, hz, hwf⟩ := trod_int Try.underlying3 h2
      simp at hz
      exact ⟨z, by rw [h1, hz], hwf⟩
    obtain ⟨K, hK, _⟩ := hint 0 (by omega)
    obtain ⟨I, hI, _⟩ := hint 1 (by omega)
    obtain ⟨J, hJ, _⟩ := hint 2 (by omega)
    obtain ⟨a, ha, wa⟩ := hint 3 (by omega)
    obtain ⟨b, hb, wb⟩ := hint 4 (by omega)
    obtain ⟨c, hc, _⟩ := hint 5 (by omega)
    obtain ⟨d, hd, _⟩ := hint 6 (by omega)
    obtain ⟨v, hv, _⟩ := hint 7 (by omega)
    obtain ⟨s, y, hs, hxy, h8⟩ := hfield 8 (by omega)
    rw [if_pos rfl] at h8
    obtain ⟨A, n', c', zs, rfl, hnc, hcm, hsl, _⟩ := open_slice_ints Try.underlying50 Try.underlying3 cInt' h8
    have hwt : n' * 8 ≤ reachBytes := by
      have := slice_weight Try.underlying50 h8 (fun q hq => hw q (by
        rw [hx]
        simp only [DataW.weights, Try.underlying111, List.mem_cons, List.mem_append]
        refine .inr (.inl (weights_all_mem (d := D i) (by simp; exact ⟨i, hi, rfl⟩) ?_))
        have hD : D i = .agg (xs.map (·.1)) := (Prod.ext_iff.1 hxx).1
        rw [hD]
        simp only [DataW.weights, hfs]
        refine DataW.weights_mem_each (j := 8) (t := 50) (d := y.1) ?_ (by rw [List.getElem?_map, hxy]; rfl) q hq
        obtain ⟨f, hf0⟩ : ∃ f, fs[8]? = some f := ⟨_, Array.getElem?_eq_getElem (by omega)⟩
        rw [List.getElem?_map, Array.getElem?_toList, hf0]
        have := (hfld 8 f hf0).2.2
        simp at this
        simp [this]))
      rw [bInt'] at this
      exact this
    refine ⟨ab, ao, rfl, K, I, J, a, b, c, d, v, A, n', c', zs, ?_, (bounds_i64 wa).1, (bounds_i64 wb).1, hsl, hnc, by unfold reachBytes at hwt; omega⟩
    intro j hj
    have h1 := hcell j hj
    rw [hadd j] at h1
    rw [h1]
    have : j = 0 ∨ j = 1 ∨ j = 2 ∨ j = 3 ∨ j = 4 ∨ j = 5 ∨ j = 6 ∨ j = 7 ∨ j = 8 := by omega
    rcases this with rfl | rfl | rfl | rfl | rfl | rfl | rfl | rfl | rfl <;> simp [hK, hI, hJ, ha, hb, hc, hd, hv, hs]
end Go.Proofs.Ytlbocfinjlkebaa.Open
