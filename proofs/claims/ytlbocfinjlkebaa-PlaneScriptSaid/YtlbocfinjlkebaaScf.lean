/- PlaneScript: more of the book; two equal arrays. -/
import Derived.Test.YtlbocfinjlkebaaScc
import Derived.ChangeKeysEq
import Derived.Test.YtlbocfinjlkebaaLex3
namespace Go.Proofs.Ytlbocfinjlkebaa.Scr
open Go.RowKit Go.Proofs.Ytlbocfinjlkebaa.Byt Go.Proofs.Ytlbocfinjlkebaa.R12

section
variable {base : Nat} {w w' : World} {B : Nat} {r : Nat → Nat} {vp vq : Value} {ps qs : List Value} {es : List Ent}
theorem Book.fresh (h : Book base w B r vp vq ps qs es) : ∃ r', Book base w B r' vp vq ps qs es ∧ (∀ x, w.heap.size ≤ x → r' x = 3) ∧ Fr r r' w w := by
  have old : ∀ x, x < w.heap.size → (if x < w.heap.size then r x else 3) = r x := fun x hx => if_pos hx
  refine ⟨fun x => if x < w.heap.size then r x else 3, ⟨h.bk, h.rowp, h.rowq, (old B h.lt).trans h.rB, fun x hx => (old x (h.rowp.lt x hx).2).trans (h.rp x hx), fun x hx => (old x (h.rowq.lt x hx).2).trans (h.rq x hx), ?_, h.bB⟩, fun x hx => if_neg (by omega), Nat.le_refl _, fun x hx hr => ⟨(old x hx).trans hr, rfl⟩⟩
  intro k e he
  obtain ⟨h1, ⟨r1, r2, r3, r4⟩, h3⟩ := h.ent k e he
  obtain ⟨⟨l1, l2⟩, l3, l4⟩ := h1.lt
  exact ⟨h1, ⟨(old _ l1).trans r1, (old _ l2).trans r2, (old _ l3).trans r3, (old _ l4).trans r4⟩, h3⟩
theorem Book.under (h : Book base w B r vp vq ps qs es) {S : Nat} (hS : ∀ x, S ≤ x → r x = 3) (hb : Below S w w') : Book base w' B r vp vq ps qs es := by
  have key : ∀ x, r x ≠ 3 → w'.heap[x]? = w.heap[x]? := fun x hx => hb.block x (Nat.lt_of_not_le (fun q => hx (hS x q)))
  have row : ∀ {te : TypeId} {v : Value} {xs : List Value}, (∀ g, v.ownBlock = some g → r g ≠ 3) → w.ownsRow base te 1 v xs.length xs → w'.ownsRow base te 1 v xs.length xs := fun {te v xs} hr hr2 => by
    refine ⟨hr2.1, ?_⟩
    rcases hr2.2 with hn | ⟨g, cap, cur, rfl, q1, q2, q3⟩
    · exact .inl hn
    · exact .inr ⟨g, cap, cur, rfl, q1, (key g (hr g rfl)).trans q2, q3⟩
  refine ⟨(key B (by rw [h.rB]; omega)).trans h.bk, row (fun g hg => by rw [h.rp g hg]; omega) h.rowp, row (fun g hg => by rw [h.rq g hg]; omega) h.rowq, h.rB, h.rp, h.rq, ?_, h.bB⟩
  intro k e he
  obtain ⟨h1, ⟨r1, r2, r3, r4⟩, h3⟩ := h.ent k e he
  exact ⟨h1.keep (key _ (by omega)) (key _ (by omega)) (key _ (by omega)) (key _ (by omega)), ⟨r1, r2, r3, r4⟩, h3⟩
theorem Book.base_le (h : Book base w B r vp vq ps qs es) {S : Nat} (hS : ∀ x, S ≤ x → r x = 3) : base ≤ S := by
  rcases Nat.lt_or_ge B S with q | q
  · have := h.bB; omega
  · have := hS B q; rw [h.rB] at this; omega
theorem Book.cellP {gP cP n : Nat} (h : Book base w B r (.slice (some ⟨gP, 0, none⟩) n cP) vq (es.map pP) qs es) (hn : es.length = n) {k : Nat} {e : Ent} (he : es[k]? = some e) : w.cell? ⟨gP, k, none⟩ = some (.pointer (some ⟨e.bp, 0, none⟩)) := by
  have hkl : k < es.length := (List.getElem?_eq_some_iff.1 he).1
  have h1 := h.rowp
  rw [List.length_map, hn] at h1
  rw [h1.cellAt k (by omega), List.getElem?_map, he]
  rfl
theorem Book.cellQ {gQ cQ n : Nat} (h : Book base w B r vp (.slice (some ⟨gQ, 0, none⟩) n cQ) ps (es.map pQ) es) (hn : es.length = n) {k : Nat} {e : Ent} (he : es[k]? = some e) : w.cell? ⟨gQ, k, none⟩ = some (.pointer (some ⟨e.bq, 0, none⟩)) := by
  have hkl : k < es.length := (List.getElem?_eq_some_iff.1 he).1
  have h1 := h.rowq
  rw [List.length_map, hn] at h1
  rw [h1.cellAt k (by omega), List.getElem?_map, he]
  rfl
end

theorem plain3 : Try.prog.plainKey 3 = true := by kernel_rfl
theorem cells3 : Try.prog.cellsOf 3 = 1 := by kernel_rfl
theorem under64 : Try.prog.underlying 97 = some (.array 64 3) := by kernel_rfl
theorem underI : Try.prog.underlying 3 = some (.int .i64) := by kernel_rfl
theorem items_same (T : Array Value) (d : Nat) (u : World) : ∀ l : List Nat, (∀ j ∈ l, ∃ z, T[j]? = some (.int .i64 z)) → (Op.eqItems (d + 1) 3 1 T T l).run Try.prog u = .ok true u
  | [], _ => by simp [Op.eqItems]
  | j :: l, h => by
    obtain ⟨z, hz⟩ := h j (by simp)
    have ih := items_same T d u l (fun i hi => h i (by simp [hi]))
    have hp : (part 3 T (j * 1)).run Try.prog u = .ok (.int .i64 z) u := run_part_plain u plain3 (by rw [Nat.mul_one]; exact hz)
    simp only [Op.eqItems, Sem.run_bind, hp, Result.andThen_ok, run_equalIn_int u d 3 .i64 .i64 z z underI, beq_self_eq_true, Bool.not_true, Bool.false_eq_true, if_false]
    exact ih
theorem eq64 (T : Array Value) (h : ∀ j, j < 64 → ∃ z, T[j]? = some (.int .i64 z)) (u : World) : (Op.equalIn 10000 97 (.agg T) (.agg T)).run Try.prog u = .ok true u := by
  obtain ⟨i, hi⟩ := info_of_underlying underI
  rw [show (10000 : Nat) = 9999 + 1 from rfl, run_equalIn_array u 9999 T T under64 hi, cells3]
  exact items_same T 9998 u _ (fun j hj => h j (List.mem_range.1 hj))
theorem guard64 : Try.prog.eqGuardType Try.prog.depth 97 = false := by kernel_rfl
end Go.Proofs.Ytlbocfinjlkebaa.Scr
