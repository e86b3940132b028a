/- PlaneScript: the book: what it is in memory, and what keeps it. -/
import Derived.Test.YtlbocfinjlkebaaSca
namespace Go.Proofs.Ytlbocfinjlkebaa.Scr
open Go.RowKit Go.Proofs.Ytlbocfinjlkebaa.Byt Go.Proofs.Ytlbocfinjlkebaa.R12

/-- a plane of the program and the document's beside it -/
structure Ent where
  bp : Nat
  gp : Nat
  cp : Nat
  bq : Nat
  gq : Nat
  cq : Nat
  W : Nat
  H : Nat
  zp : List Int
  zq : List Int
def Ent.At (e : Ent) (w : World) : Prop := PI.PA w e.bp e.gp e.W e.H e.cp (e.zp.map (.int .i64)) ∧ RA w e.bq e.gq e.W e.H e.cq e.zq
def pP (e : Ent) : Value := .pointer (some ⟨e.bp, 0, none⟩)
def pQ (e : Ent) : Value := .pointer (some ⟨e.bq, 0, none⟩)

/-- the book at block B; r says of every block whose it is -/
structure Book (base : Nat) (w : World) (B : Nat) (r : Nat → Nat) (vp vq : Value) (ps qs : List Value) (es : List Ent) : Prop where
  bk : Blk w B 116 #[vp, vq, .bool true]
  rowp : w.ownsRow base 51 1 vp ps.length ps
  rowq : w.ownsRow base 123 1 vq qs.length qs
  rB : r B = 0
  rp : ∀ g, vp.ownBlock = some g → r g = 1
  rq : ∀ g, vq.ownBlock = some g → r g = 2
  ent : ∀ k e, es[k]? = some e → e.At w ∧ (r e.bp = 4 * k + 4 ∧ r e.gp = 4 * k + 5 ∧ r e.bq = 4 * k + 6 ∧ r e.gq = 4 * k + 7) ∧ base ≤ e.gp ∧ base ≤ e.gq
  bB : base ≤ B

/-- what is another's (role 3) stays -/
def Fr (r r' : Nat → Nat) (w w' : World) : Prop := w.heap.size ≤ w'.heap.size ∧ ∀ x, x < w.heap.size → r x = 3 → r' x = 3 ∧ w'.heap[x]? = w.heap[x]?
theorem Fr.trans {r r1 r2 : Nat → Nat} {w w1 w2 : World} (h : Fr r r1 w w1) (k : Fr r1 r2 w1 w2) : Fr r r2 w w2 := by
  refine ⟨Nat.le_trans h.1 k.1, fun x hx hr => ?_⟩
  obtain ⟨a, b⟩ := h.2 x hx hr
  obtain ⟨c, d⟩ := k.2 x (Nat.lt_of_lt_of_le hx h.1) a
  exact ⟨c, d.trans b⟩
theorem Fr.below {r : Nat → Nat} {w w' : World} (h : Below w.heap.size w w') : Fr r r w w' := ⟨h.size, fun x hx hr => ⟨hr, h.block x hx⟩⟩
theorem Fr.refl (r : Nat → Nat) (w : World) : Fr r r w w := Fr.below (Below.refl _ _)
theorem Fr.blk {r r' : Nat → Nat} {w w' : World} {g : Nat} {t : TypeId} {cs : Array Value} (h : Fr r r' w w') (k : Blk w g t cs) (hr : r g = 3) : Blk w' g t cs := (h.2 g k.lt hr).2.trans k
theorem Fr.role {r r' : Nat → Nat} {w w' : World} {g : Nat} (h : Fr r r' w w') (k : g < w.heap.size) (hr : r g = 3) : r' g = 3 := (h.2 g k hr).1

section
variable {base : Nat} {w w' : World} {B : Nat} {r : Nat → Nat} {vp vq : Value} {ps qs : List Value} {es : List Ent}

theorem Book.below (h : Book base w B r vp vq ps qs es) (hb : Below w.heap.size w w') : Book base w' B r vp vq ps qs es where
  bk := h.bk.kept hb
  rowp := h.rowp.kept (grown_of_below hb none) (by cases vp.ownBlock <;> simp)
  rowq := h.rowq.kept (grown_of_below hb none) (by cases vq.ownBlock <;> simp)
  rB := h.rB
  rp := h.rp
  rq := h.rq
  ent := fun k e he => ⟨⟨(h.ent k e he).1.1.below hb, (h.ent k e he).1.2.below hb⟩, (h.ent k e he).2⟩
  bB := h.bB
theorem Book.drewN (h : Book base w B r vp vq ps qs es) (n : Nat) : Book base (w.drewN n) B r vp vq ps qs es := h.below (below_drewN (Below.refl _ _) n)
theorem Book.p0 (h : Book base w B r vp vq ps qs es) : w.cell? ⟨B, 0, none⟩ = some vp := by rw [h.bk.cell]; rfl
theorem Book.p1 (h : Book base w B r vp vq ps qs es) : w.cell? ⟨B, 1, none⟩ = some vq := by rw [h.bk.cell]; rfl
theorem Book.p2 (h : Book base w B r vp vq ps qs es) : w.cell? ⟨B, 2, none⟩ = some (.bool true) := by rw [h.bk.cell]; rfl
theorem Book.frozen (h : Book base w B r vp vq ps qs es) (i : Nat) : w.frozen? ⟨B, i, none⟩ = false := h.bk.frozen i
theorem Book.lt (h : Book base w B r vp vq ps qs es) : B < w.heap.size := h.bk.lt
theorem Book.le (h : Book base w B r vp vq ps qs es) : base ≤ w.heap.size := Nat.le_of_lt (Nat.lt_of_le_of_lt h.bB h.lt)
theorem Book.offB (h : Book base w B r vp vq ps qs es) : vp.ownBlock ≠ some B ∧ vq.ownBlock ≠ some B :=
  ⟨fun e => by have := h.rp B e; rw [h.rB] at this; omega, fun e => by have := h.rq B e; rw [h.rB] at this; omega⟩

/-- blocks other than the book's own that stay: the entries -/
theorem Ent.At.keep {e : Ent} (h : e.At w) (h1 : w'.heap[e.bp]? = w.heap[e.bp]?) (h2 : w'.heap[e.gp]? = w.heap[e.gp]?) (h3 : w'.heap[e.bq]? = w.heap[e.bq]?) (h4 : w'.heap[e.gq]? = w.heap[e.gq]?) : e.At w' :=
  ⟨h.1.keep h1 h2, h.2.keep h3 h4⟩
theorem Ent.At.lt {e : Ent} (h : e.At w) : (e.bp < w.heap.size ∧ e.gp < w.heap.size) ∧ e.bq < w.heap.size ∧ e.gq < w.heap.size :=
  ⟨⟨h.1.blt, h.1.glt⟩, h.2.blt, h.2.glt⟩

/-- 'ok' is set to true, as it was -/
theorem Book.mark (h : Book base w B r vp vq ps qs es) : Book base (w.setCell ⟨B, 2, none⟩ (.bool true)) B r vp vq ps qs es where
  bk := Blk.set h.bk 2 (.bool true)
  rowp := ownsRow_setCell_other h.rowp h.offB.1 _
  rowq := ownsRow_setCell_other h.rowq h.offB.2 _
  rB := h.rB
  rp := h.rp
  rq := h.rq
  ent := fun k e he => by
    obtain ⟨h1, ⟨r1, r2, r3, r4⟩, h3⟩ := h.ent k e he
    have key : ∀ x, r x ≠ 0 → (w.setCell ⟨B, 2, none⟩ (.bool true)).heap[x]? = w.heap[x]? := fun x hx => Below.heap_setCell w _ _ x (fun e => hx (by rw [e]; exact h.rB))
    exact ⟨h1.keep (key _ (by omega)) (key _ (by omega)) (key _ (by omega)) (key _ (by omega)), ⟨r1, r2, r3, r4⟩, h3⟩
  bB := h.bB
theorem Book.markF (h : Book base w B r vp vq ps qs es) : Fr r r w (w.setCell ⟨B, 2, none⟩ (.bool true)) :=
  ⟨by simp, fun x hx hr => ⟨hr, Below.heap_setCell w _ _ x (fun e => by rw [e, h.rB] at hr; omega)⟩⟩
/-- a cell of another's block is written -/
theorem Book.off (h : Book base w B r vp vq ps qs es) {a : Addr} (ha : r a.block = 3) (u : Value) : Book base (w.setCell a u) B r vp vq ps qs es := by
  have key : ∀ x, r x ≠ 3 → (w.setCell a u).heap[x]? = w.heap[x]? := fun x hx => Below.heap_setCell w _ _ x (fun e => hx (by rw [e]; exact ha))
  refine ⟨(key B (by rw [h.rB]; omega)).trans h.bk, ownsRow_setCell_other h.rowp (fun e => by have := h.rp _ e; omega) _, ownsRow_setCell_other h.rowq (fun e => by have := h.rq _ e; omega) _, h.rB, h.rp, h.rq, ?_, h.bB⟩
  intro k e he
  obtain ⟨h1, ⟨r1, r2, r3, r4⟩, h3⟩ := h.ent k e he
  exact ⟨h1.keep (key _ (by omega)) (key _ (by omega)) (key _ (by omega)) (key _ (by omega)), ⟨r1, r2, r3, r4⟩, h3⟩
/-- a new block is another's -/
theorem Book.role (h : Book base w B r vp vq ps qs es) (hb : Below w.heap.size w w') {g : Nat} (hg : w.heap.size ≤ g) : Book base w' B (fun x => if x = g then 3 else r x) vp vq ps qs es ∧ Fr r (fun x => if x = g then 3 else r x) w w' := by
  have old : ∀ x, x < w.heap.size → (if x = g then 3 else r x) = r x := fun x hx => if_neg (by omega)
  have hk := h.below hb
  refine ⟨⟨hk.bk, hk.rowp, hk.rowq, (old B h.lt).trans h.rB, fun x hx => (old x (h.rowp.lt x hx).2).trans (h.rp x hx), fun x hx => (old x (h.rowq.lt x hx).2).trans (h.rq x hx), ?_, h.bB⟩, hb.size, fun x hx hr => ⟨(old x hx).trans hr, hb.block x hx⟩⟩
  intro k e he
  obtain ⟨⟨l1, l2⟩, l3, l4⟩ := (h.ent k e he).1.lt
  obtain ⟨h1, ⟨r1, r2, r3, r4⟩, h3⟩ := hk.ent k e he
  exact ⟨h1, ⟨(old _ l1).trans r1, (old _ l2).trans r2, (old _ l3).trans r3, (old _ l4).trans r4⟩, h3⟩
theorem Book.markB (h : Book base w B r vp vq ps qs es) {w0 : World} (hb : Below base w0 w) : Below base w0 (w.setCell ⟨B, 2, none⟩ (.bool true)) := hb.setCell h.bB _

theorem Book.pushP (h : Book base w B r vp vq ps qs es) {w1 : World} {v : Value} {n gg cap : Nat} {o : Obj} (hn : ps.length = n) (hown : w1.ownsRow base 51 1 (.slice (some ⟨gg, 0, none⟩) (n + 1) cap) (n + 1) (ps ++ [v])) (hgrow : (w.alloc o).grownBy w1 vp.ownBlock)
    (hat : vp.ownBlock = some gg ∨ gg = w.heap.size + 1) :
    Book base (w1.setCell ⟨B, 0, none⟩ (.slice (some ⟨gg, 0, none⟩) (n + 1) cap)) B (fun x => if x = gg then 1 else r x) (.slice (some ⟨gg, 0, none⟩) (n + 1) cap) vq (ps ++ [v]) qs es ∧
      Below base w (w1.setCell ⟨B, 0, none⟩ (.slice (some ⟨gg, 0, none⟩) (n + 1) cap)) ∧ Fr r (fun x => if x = gg then 1 else r x) w (w1.setCell ⟨B, 0, none⟩ (.slice (some ⟨gg, 0, none⟩) (n + 1) cap)) := by
  have key : ∀ x, x < w.heap.size → r x ≠ 1 → x ≠ gg := fun x hx hr e => by
    rcases hat with q | q
    · exact hr (by rw [e]; exact h.rp gg q)
    · omega
  have hBg : B ≠ gg := key B h.lt (by rw [h.rB]; omega)
  have hfr : ∀ x, x < w.heap.size → r x ≠ 1 → r x ≠ 0 → (w1.setCell ⟨B, 0, none⟩ (.slice (some ⟨gg, 0, none⟩) (n + 1) cap)).heap[x]? = w.heap[x]? := fun x hx hr hr0 => by
    rw [Below.heap_setCell w1 _ _ x (fun e => hr0 (by rw [e]; exact h.rB)), hgrow.block x (by simp; omega) (fun e => hr (h.rp x e.symm)), heap_alloc_old w o hx]
  have hrB : Blk w1 B 116 #[vp, vq, .bool true] := (h.bk.alloc o).grown hgrow (fun e => h.offB.1 e.symm)
  refine ⟨⟨?_, ?_, ?_, ?_, ?_, ?_, ?_, h.bB⟩, ?_, ?_, ?_⟩
  · exact Blk.set hrB 0 _
  · rw [List.length_append, hn]
    exact ownsRow_setCell_other hown (by simp [Value.ownBlock]; exact fun e => hBg e.symm) _
  · refine ownsRow_setCell_other ((h.rowq.alloc o).kept hgrow ?_) h.offB.2 _
    cases hv : vq.ownBlock with
    | none => exact .inl rfl
    | some g => exact .inr (fun e => by have a := h.rq g hv; have b := h.rp g e.symm; omega)
  · show (if B = gg then 1 else r B) = 0
    rw [if_neg hBg, h.rB]
  · intro g hg
    have : g = gg := by simpa [Value.ownBlock] using hg.symm
    show (if g = gg then 1 else r g) = 1
    rw [if_pos this]
  · intro g hg
    have hr := h.rq g hg
    show (if g = gg then 1 else r g) = 2
    rw [if_neg (key g (h.rowq.lt g hg).2 (by omega)), hr]
  · intro k e he
    obtain ⟨h1, ⟨r1, r2, r3, r4⟩, h3⟩ := h.ent k e he
    obtain ⟨⟨l1, l2⟩, l3, l4⟩ := h1.lt
    refine ⟨h1.keep (hfr _ l1 (by omega) (by omega)) (hfr _ l2 (by omega) (by omega)) (hfr _ l3 (by omega) (by omega)) (hfr _ l4 (by omega) (by omega)), ?_, h3⟩
    try dsimp only
    rw [if_neg (key _ l1 (by omega)), if_neg (key _ l2 (by omega)), if_neg (key _ l3 (by omega)), if_neg (key _ l4 (by omega))]
    exact ⟨r1, r2, r3, r4⟩
  · have a1 : Below base w (w.alloc o) := (Below.refl _ _).alloc h.le _
    exact (a1.grown hgrow (by simp; have := h.le; omega) (fun j hj => (h.rowp.lt j hj).1)).setCell h.bB _
  · have := hgrow.size; simp at this ⊢; omega
  · intro x hx hr
    exact ⟨(if_neg (key x hx (by omega))).trans hr, hfr x hx (by omega) (by omega)⟩

theorem Book.pushQ (h : Book base w B r vp vq ps qs es) {w1 : World} {v : Value} {n gg cap : Nat} {o : Obj} (hn : qs.length = n) (hown : w1.ownsRow base 123 1 (.slice (some ⟨gg, 0, none⟩) (n + 1) cap) (n + 1) (qs ++ [v])) (hgrow : (w.alloc o).grownBy w1 vq.ownBlock)
    (hat : vq.ownBlock = some gg ∨ gg = w.heap.size + 1) :
    Book base (w1.setCell ⟨B, 1, none⟩ (.slice (some ⟨gg, 0, none⟩) (n + 1) cap)) B (fun x => if x = gg then 2 else r x) vp (.slice (some ⟨gg, 0, none⟩) (n + 1) cap) ps (qs ++ [v]) es ∧
      Below base w (w1.setCell ⟨B, 1, none⟩ (.slice (some ⟨gg, 0, none⟩) (n + 1) cap)) ∧ Fr r (fun x => if x = gg then 2 else r x) w (w1.setCell ⟨B, 1, none⟩ (.slice (some ⟨gg, 0, none⟩) (n + 1) cap)) := by
  have key : ∀ x, x < w.heap.size → r x ≠ 2 → x ≠ gg := fun x hx hr e => by
    rcases hat with q | q
    · exact hr (by rw [e]; exact h.rq gg q)
    · omega
  have hBg : B ≠ gg := key B h.lt (by rw [h.rB]; omega)
  have hfr : ∀ x, x < w.heap.size → r x ≠ 2 → r x ≠ 0 → (w1.setCell ⟨B, 1, none⟩ (.slice (some ⟨gg, 0, none⟩) (n + 1) cap)).heap[x]? = w.heap[x]? := fun x hx hr hr0 => by
    rw [Below.heap_setCell w1 _ _ x (fun e => hr0 (by rw [e]; exact h.rB)), hgrow.block x (by simp; omega) (fun e => hr (h.rq x e.symm)), heap_alloc_old w o hx]
  have hrB : Blk w1 B 116 #[vp, vq, .bool true] := (h.bk.alloc o).grown hgrow (fun e => h.offB.2 e.symm)
  refine ⟨⟨?_, ?_, ?_, ?_, ?_, ?_, ?_, h.bB⟩, ?_, ?_, ?_⟩
  · exact Blk.set hrB 1 _
  · refine ownsRow_setCell_other ((h.rowp.alloc o).kept hgrow ?_) h.offB.1 _
    cases hv : vp.ownBlock with
    | none => exact .inl rfl
    | some g => exact .inr (fun e => by have a := h.rp g hv; have b := h.rq g e.symm; omega)
  · rw [List.length_append, hn]
    exact ownsRow_setCell_other hown (by simp [Value.ownBlock]; exact fun e => hBg e.symm) _
  · show (if B = gg then 2 else r B) = 0
    rw [if_neg hBg, h.rB]
  · intro g hg
    have hr := h.rp g hg
    show (if g = gg then 2 else r g) = 1
    rw [if_neg (key g (h.rowp.lt g hg).2 (by omega)), hr]
  · intro g hg
    have : g = gg := by simpa [Value.ownBlock] using hg.symm
    show (if g = gg then 2 else r g) = 2
    rw [if_pos this]
  · intro k e he
    obtain ⟨h1, ⟨r1, r2, r3, r4⟩, h3⟩ := h.ent k e he
    obtain ⟨⟨l1, l2⟩, l3, l4⟩ := h1.lt
    refine ⟨h1.keep (hfr _ l1 (by omega) (by omega)) (hfr _ l2 (by omega) (by omega)) (hfr _ l3 (by omega) (by omega)) (hfr _ l4 (by omega) (by omega)), ?_, h3⟩
    try dsimp only
    rw [if_neg (key _ l1 (by omega)), if_neg (key _ l2 (by omega)), if_neg (key _ l3 (by omega)), if_neg (key _ l4 (by omega))]
    exact ⟨r1, r2, r3, r4⟩
  · have a1 : Below base w (w.alloc o) := (Below.refl _ _).alloc h.le _
    exact (a1.grown hgrow (by simp; have := h.le; omega) (fun j hj => (h.rowq.lt j hj).1)).setCell h.bB _
  · have := hgrow.size; simp at this ⊢; omega
  · intro x hx hr
    exact ⟨(if_neg (key x hx (by omega))).trans hr, hfr x hx (by omega) (by omega)⟩

theorem Book.setP (h : Book base w B r vp vq ps qs es) {k : Nat} {e : Ent} {zs : List Int} (he : es[k]? = some e) (hg : w.grownBy w' (some e.gp)) (hp : PI.PA w' e.bp e.gp e.W e.H e.cp (zs.map (.int .i64))) :
    Book base w' B r vp vq ps qs (es.set k { e with zp := zs }) ∧ Below base w w' ∧ Fr r r w w' := by
  obtain ⟨h1, ⟨r1, r2, r3, r4⟩, h3, h4⟩ := h.ent k e he
  have key : ∀ x, r x ≠ 4 * k + 5 → x ≠ e.gp := fun x hx q => hx (by rw [q]; exact r2)
  have hfr : ∀ x, x < w.heap.size → r x ≠ 4 * k + 5 → w'.heap[x]? = w.heap[x]? := fun x hx hr => hg.block x hx (fun q => by injection q with q; exact key x hr q)
  have hkl : k < es.length := (List.getElem?_eq_some_iff.1 he).1
  refine ⟨⟨h.bk.grown hg (fun q => by injection q with q; exact key B (by rw [h.rB]; omega) q), ?_, ?_, h.rB, h.rp, h.rq, ?_, h.bB⟩, ?_, ?_⟩
  · refine h.rowp.kept hg ?_
    cases hv : vp.ownBlock with
    | none => exact .inl rfl
    | some g => exact .inr (fun q => by injection q with q; exact key g (by rw [h.rp g hv]; omega) q)
  · refine h.rowq.kept hg ?_
    cases hv : vq.ownBlock with
    | none => exact .inl rfl
    | some g => exact .inr (fun q => by injection q with q; exact key g (by rw [h.rq g hv]; omega) q)
  · intro j e' he'
    by_cases hj : j = k
    · subst hj
      rw [List.getElem?_set_self hkl] at he'
      injection he' with he'
      subst he'
      obtain ⟨⟨l1, l2⟩, l3, l4⟩ := h1.lt
      refine ⟨?_, ⟨r1, r2, r3, r4⟩, h3, h4⟩
      exact ⟨hp, h1.2.keep (hfr _ l3 (by omega)) (hfr _ l4 (by omega))⟩
    · rw [List.getElem?_set_ne (by omega)] at he'
      obtain ⟨g1, ⟨s1, s2, s3, s4⟩, g3⟩ := h.ent j e' he'
      obtain ⟨⟨l1, l2⟩, l3, l4⟩ := g1.lt
      exact ⟨g1.keep (hfr _ l1 (by omega)) (hfr _ l2 (by omega)) (hfr _ l3 (by omega)) (hfr _ l4 (by omega)), ⟨s1, s2, s3, s4⟩, g3⟩
  · exact below_of_grown_new hg h3 h.le
  · exact ⟨hg.size, fun x hx hr => ⟨hr, hfr x hx (by omega)⟩⟩

theorem Book.setQ (h : Book base w B r vp vq ps qs es) {k : Nat} {e : Ent} {zs : List Int} (he : es[k]? = some e) (hg : w.grownBy w' (some e.gq)) (hp : RA w' e.bq e.gq e.W e.H e.cq zs) :
    Book base w' B r vp vq ps qs (es.set k { e with zq := zs }) ∧ Below base w w' ∧ Fr r r w w' := by
  obtain ⟨h1, ⟨r1, r2, r3, r4⟩, h3, h4⟩ := h.ent k e he
  have key : ∀ x, r x ≠ 4 * k + 7 → x ≠ e.gq := fun x hx q => hx (by rw [q]; exact r4)
  have hfr : ∀ x, x < w.heap.size → r x ≠ 4 * k + 7 → w'.heap[x]? = w.heap[x]? := fun x hx hr => hg.block x hx (fun q => by injection q with q; exact key x hr q)
  have hkl : k < es.length := (List.getElem?_eq_some_iff.1 he).1
  refine ⟨⟨h.bk.grown hg (fun q => by injection q with q; exact key B (by rw [h.rB]; omega) q), ?_, ?_, h.rB, h.rp, h.rq, ?_, h.bB⟩, ?_, ?_⟩
  · refine h.rowp.kept hg ?_
    cases hv : vp.ownBlock with
    | none => exact .inl rfl
    | some g => exact .inr (fun q => by injection q with q; exact key g (by rw [h.rp g hv]; omega) q)
  · refine h.rowq.kept hg ?_
    cases hv : vq.ownBlock with
    | none => exact .inl rfl
    | some g => exact .inr (fun q => by injection q with q; exact key g (by rw [h.rq g hv]; omega) q)
  · intro j e' he'
    by_cases hj : j = k
    · subst hj
      rw [List.getElem?_set_self hkl] at he'
      injection he' with he'
      subst he'
      obtain ⟨⟨l1, l2⟩, l3, l4⟩ := h1.lt
      refine ⟨?_, ⟨r1, r2, r3, r4⟩, h3, h4⟩
      exact ⟨h1.1.keep (hfr _ l1 (by omega)) (hfr _ l2 (by omega)), hp⟩
    · rw [List.getElem?_set_ne (by omega)] at he'
      obtain ⟨g1, ⟨s1, s2, s3, s4⟩, g3⟩ := h.ent j e' he'
      obtain ⟨⟨l1, l2⟩, l3, l4⟩ := g1.lt
      exact ⟨g1.keep (hfr _ l1 (by omega)) (hfr _ l2 (by omega)) (hfr _ l3 (by omega)) (hfr _ l4 (by omega)), ⟨s1, s2, s3, s4⟩, g3⟩
  · exact below_of_grown_new hg h4 h.le
  · exact ⟨hg.size, fun x hx hr => ⟨hr, hfr x hx (by omega)⟩⟩

/-- two new planes -/
theorem Book.add (h : Book base w B r vp vq ps qs es) {e : Ent} (hb : Below w.heap.size w w') (he : e.At w') (h1 : w.heap.size ≤ e.bp) (h2 : w.heap.size ≤ e.gp) (h3 : w.heap.size ≤ e.bq) (h4 : w.heap.size ≤ e.gq)
    (d1 : e.bp < e.bq ∧ e.bp < e.gq) (d2 : e.gp < e.bq ∧ e.gp < e.gq) : ∃ r', Book base w' B r' vp vq ps qs (es ++ [e]) ∧ Fr r r' w w' := by
  have hw := h.le
  have hk := h.below hb
  have n1 : e.bp ≠ e.gp := he.1.ne
  have n2 : e.bq ≠ e.gq := he.2.ne
  have old : ∀ x, x < w.heap.size → (if x = e.bp then 4 * es.length + 4 else if x = e.gp then 4 * es.length + 5 else if x = e.bq then 4 * es.length + 6 else if x = e.gq then 4 * es.length + 7 else r x) = r x := fun x hx => by
    rw [if_neg (by omega), if_neg (by omega), if_neg (by omega), if_neg (by omega)]
  refine ⟨fun x => if x = e.bp then 4 * es.length + 4 else if x = e.gp then 4 * es.length + 5 else if x = e.bq then 4 * es.length + 6 else if x = e.gq then 4 * es.length + 7 else r x, ⟨hk.bk, hk.rowp, hk.rowq, ?_, ?_, ?_, ?_, h.bB⟩, hb.size, fun x hx hr => ⟨(old x hx).trans hr, hb.block x hx⟩⟩
  · exact (old B h.lt).trans h.rB
  · intro g hg
    exact (old g (h.rowp.lt g hg).2).trans (h.rp g hg)
  · intro g hg
    exact (old g (h.rowq.lt g hg).2).trans (h.rq g hg)
  · intro k e' he'
    by_cases hkl : k < es.length
    · rw [List.getElem?_append_left hkl] at he'
      obtain ⟨g1, ⟨s1, s2, s3, s4⟩, g3⟩ := h.ent k e' he'
      obtain ⟨⟨l1, l2⟩, l3, l4⟩ := g1.lt
      refine ⟨(hk.ent k e' he').1, ⟨(old _ l1).trans s1, (old _ l2).trans s2, (old _ l3).trans s3, (old _ l4).trans s4⟩, g3⟩
    · rw [List.getElem?_append_right (by omega)] at he'
      obtain rfl : k = es.length := by
        have := (List.getElem?_eq_some_iff.1 he').1
        simp at this
        omega
      rw [Nat.sub_self] at he'
      injection he' with he'
      subst he'
      refine ⟨he, ⟨?_, ?_, ?_, ?_⟩, by omega, by omega⟩
      · rw [if_pos rfl]
      · rw [if_neg (by omega), if_pos rfl]
      · rw [if_neg (by omega), if_neg (by omega), if_pos rfl]
      · rw [if_neg (by omega), if_neg (by omega), if_neg (by omega), if_pos rfl]

/-- what is read of the book at an entry -/
theorem Book.see (h : Book base w B r vp vq (es.map pP) (es.map pQ) es) (n : Nat) (hn : es.length = n) {k : Nat} {e : Ent} (he : es[k]? = some e) :
    ∃ gP cP gQ cQ, vp = .slice (some ⟨gP, 0, none⟩) n cP ∧ vq = .slice (some ⟨gQ, 0, none⟩) n cQ ∧
      w.cell? ⟨gP, k, none⟩ = some (.pointer (some ⟨e.bp, 0, none⟩)) ∧ w.cell? ⟨gQ, k, none⟩ = some (.pointer (some ⟨e.bq, 0, none⟩)) := by
  have hkl : k < es.length := (List.getElem?_eq_some_iff.1 he).1
  have h1 := h.rowp
  have h2 := h.rowq
  rw [List.length_map, hn] at h1 h2
  obtain ⟨gP, cP, rfl, _, _⟩ := h1.form (by omega)
  obtain ⟨gQ, cQ, rfl, _, _⟩ := h2.form (by omega)
  refine ⟨gP, cP, gQ, cQ, rfl, rfl, ?_, ?_⟩
  · rw [h1.cellAt k (by omega), List.getElem?_map, he]; rfl
  · rw [h2.cellAt k (by omega), List.getElem?_map, he]; rfl
end

section
variable {base : Nat} {w w' : World} {B : Nat} {r : Nat → Nat} {vp vq : Value} {ps qs : List Value} {es : List Ent}
theorem Book.box (h : Book base w B r vp vq ps qs es) (cs : Array Value) (ty : TypeId) : ∃ r1, Book base (w.alloc (.cells cs ty)) B r1 vp vq ps qs es ∧ Fr r r1 w (w.alloc (.cells cs ty)) ∧ r1 w.heap.size = 3 ∧ Blk (w.alloc (.cells cs ty)) w.heap.size ty cs ∧ Below base w (w.alloc (.cells cs ty)) := by
  obtain ⟨h1, f1⟩ := h.role (w' := w.alloc (.cells cs ty)) ((Below.refl _ _).alloc (Nat.le_refl _) _) (g := w.heap.size) (Nat.le_refl _)
  exact ⟨_, h1, f1, if_pos rfl, Blk.new w _ _, (Below.refl _ _).alloc h.le _⟩
end
/-- how a call goes on -/
def Full (base : Nat) (w : World) (B : Nat) (n : Nat) : Prop := ∃ r vp vq es, Book base w B r vp vq (es.map pP) (es.map pQ) es ∧ (∀ e ∈ es, e.zp = e.zq) ∧ es.length = n
def Goes (base B n : Nat) (w : World) (e : Ending) (w' : World) : Prop := e = .returned (.tuple #[]) ∧ Below base w w' ∧ ∃ m, Full base w' B m ∧ m ≤ n + 1
theorem Goes.same {base B n : Nat} {w w' : World} {r : Nat → Nat} {vp vq : Value} {es : List Ent} (hb : Below base w w') (h : Book base w' B r vp vq (es.map pP) (es.map pQ) es) (hz : ∀ e ∈ es, e.zp = e.zq) (hn : es.length = n) : Goes base B n w (.returned (.tuple #[])) w' :=
  ⟨rfl, hb, n, ⟨r, vp, vq, es, h, hz, hn⟩, by omega⟩
theorem Goes.more {base B n : Nat} {w w' : World} {r : Nat → Nat} {vp vq : Value} {es : List Ent} {e : Ent} (hb : Below base w w') (h : Book base w' B r vp vq (es.map pP ++ [.pointer (some ⟨e.bp, 0, none⟩)]) (es.map pQ ++ [.pointer (some ⟨e.bq, 0, none⟩)]) (es ++ [e])) (hz : ∀ e ∈ es, e.zp = e.zq) (he : e.zp = e.zq) (hn : es.length = n) : Goes base B n w (.returned (.tuple #[])) w' := by
  refine ⟨rfl, hb, n + 1, ⟨r, vp, vq, es ++ [e], ?_, ?_, by simp [hn]⟩, Nat.le_refl _⟩
  · rw [List.map_append, List.map_append]
    exact h
  · intro x hx
    rw [List.mem_append, List.mem_singleton] at hx
    rcases hx with hx | rfl
    · exact hz x hx
    · exact he
end Go.Proofs.Ytlbocfinjlkebaa.Scr
