/- A segment's lists in memory of their own, more loosely. What is compared with its like is the same: structs and arrays of numbers. Parts, frames, tables of codes held against their like. Two segments that say the same are the same. -/
import Derived.Test.YtjfgfoeenajneaaGreatDoorGC4
import Derived.Test.YtjfgfoeenajneaaGreatDoorGC0
import Derived.Test.YtjfgfoeenajneaaGreatDoorGC7
import Derived.DeepKeys
namespace Go.Proofs.YtjfgfoeenajneaaGreatDoor.Sg
open Go.RowKit

/-- a segment's lists, in memory of their own; the values of a table may lie in whatever row of bytes -/
structure ListsL (base : Nat) (u : World) (m : SegM) (vq vh vc vp vi : Value) : Prop where
  q : u.ownsRow base 81 66 vq m.quants.length (m.quants.flatMap quantC)
  h : ∃ ps : List (HuffM × Value), ps.map (·.1) = m.huffs ∧ u.ownsRow base 87 19 vh ps.length (ps.flatMap huffC) ∧ ∀ p ∈ ps, VL u base p.2 p.1.vals
  c : u.ownsRow base 90 4 vc m.comps.length (m.comps.flatMap compC)
  p : u.ownsRow base 92 3 vp m.parts.length (m.parts.flatMap partC)
  i : u.ownsRow base 5 1 vi m.ids.length (u8s m.ids)
theorem Lists.loose {base : Nat} {u : World} {m : SegM} {vq vh vc vp vi : Value} (h : Lists base u m vq vh vc vp vi) : ListsL base u m vq vh vc vp vi := by
  obtain ⟨q, ⟨ps, h1, h2, h3, _⟩, c, p, i⟩ := h
  exact ⟨q, ⟨ps, h1, h2, fun x hx => (h3 x hx).vl⟩, c, p, i⟩
theorem own_cap {u : World} {base : Nat} {e : TypeId} {z n c : Nat} {A : Option Addr} {xs : List Value} (h : u.ownsRow base e z (.slice A n c) n xs) : n ≤ c := by
  rcases h.2 with ⟨_, h0⟩ | ⟨g, cap, cur, hv, _, _, hnc, _⟩
  · omega
  · injection hv with _ _ h3
    omega
theorem own_rws {u : World} {base : Nat} {e : TypeId} {z n : Nat} {v : Value} {xs : List Value} (h : u.ownsRow base e z v n xs) : ∃ A c, v = .slice A n c ∧ Rows z u A n xs ∧ n ≤ c := by
  obtain ⟨A, c, rfl⟩ := own_slice h
  exact ⟨A, c, rfl, Rows.own h, own_cap h⟩
theorem rows_sl {u : World} {A : Option Addr} {n : Nat} {xs : List Value} (h : Rows 1 u A n xs) : Sl u A n xs := by
  refine ⟨by rw [h.1, Nat.mul_one], fun hn => ?_⟩
  obtain ⟨b, o, h1, h2⟩ := h.2 hn
  exact ⟨b, o, h1, fun j hj => h2 j (by omega)⟩
/-- what lies in memory of its own lies there -/
theorem ListsL.at_ {base : Nat} {u : World} {m : SegM} {vq vh vc vp vi : Value} (h : ListsL base u m vq vh vc vp vi) : SegAt u m vq vh vc vp vi := by
  obtain ⟨q, ⟨ps, h1, h2, h3⟩, c, p, i⟩ := h
  obtain ⟨A1, c1, rfl, r1, _⟩ := own_rws q
  obtain ⟨A2, c2, rfl, r2, _⟩ := own_rws h2
  obtain ⟨A3, c3, rfl, r3, l3⟩ := own_rws c
  obtain ⟨A4, c4, rfl, r4, _⟩ := own_rws p
  obtain ⟨A5, c5, rfl, r5, _⟩ := own_rws i
  have hl : ps.length = m.huffs.length := by rw [← h1, List.length_map]
  rw [hl] at r2 ⊢
  exact ⟨⟨A1, c1, rfl, r1⟩, ⟨A2, c2, ps, rfl, h1, r2, fun x hx => (h3 x hx).sl⟩, ⟨A3, c3, rfl, r3, l3⟩, ⟨A4, c4, rfl, r4⟩, ⟨A5, c5, rfl, rows_sl r5⟩⟩
/-- the lists stand while whatever lies from a place on stands -/
theorem ListsL.keep {base : Nat} {u u' : World} {m : SegM} {vq vh vc vp vi : Value} (h : ListsL base u m vq vh vc vp vi) (hk : ∀ g, base ≤ g → g < u.heap.size → u'.heap[g]? = u.heap[g]?) : ListsL base u' m vq vh vc vp vi := by
  obtain ⟨q, ⟨ps, h1, h2, h3⟩, c, p, i⟩ := h
  have f : ∀ {e : TypeId} {z n : Nat} {v : Value} {xs : List Value}, u.ownsRow base e z v n xs → u'.ownsRow base e z v n xs := fun hr => own_keep hr fun g hg => hk g (hr.lt g hg).1 (hr.lt g hg).2
  exact ⟨f q, ⟨ps, h1, f h2, fun x hx => (h3 x hx).keep fun g hg => hk g ((h3 x hx).lt g hg).1 ((h3 x hx).lt g hg).2⟩, f c, f p, f i⟩
theorem ListsL.below {base : Nat} {u u' : World} {m : SegM} {vq vh vc vp vi : Value} (h : ListsL base u m vq vh vc vp vi) (hb : Below u.heap.size u u') : ListsL base u' m vq vh vc vp vi := h.keep fun g _ hg => hb.block g hg
theorem VL.mono {w : World} {base b0 : Nat} {v : Value} {t : List Nat} (h : VL w base v t) (hb : b0 ≤ base) : VL w b0 v t := by
  rcases h with h | ⟨g, cap, cur, z, h0, h1, h2⟩
  · exact .inl h
  · exact .inr ⟨g, cap, cur, z, h0, by omega, h2⟩
theorem ListsL.mono {base b0 : Nat} {u : World} {m : SegM} {vq vh vc vp vi : Value} (h : ListsL base u m vq vh vc vp vi) (hb : b0 ≤ base) : ListsL b0 u m vq vh vc vp vi := by
  obtain ⟨q, ⟨ps, h1, h2, h3⟩, c, p, i⟩ := h
  exact ⟨own_mono q hb, ⟨ps, h1, own_mono h2 hb, fun x hx => (h3 x hx).mono hb⟩, own_mono c hb, own_mono p hb, own_mono i hb⟩
/-- a segment that came in, and one that is made: blocks s (what came in), r (the result), d (what is made) -/
structure TwI (w0 u : World) (s r d : Nat) (ss rs ds : Array Value) : Prop where
  S : Blk u s 31 ss
  R : Blk u r 31 rs
  D : Blk u d 31 ds
  b : Below w0.heap.size w0 u
  ne : w0.heap.size ≤ s ∧ s < r ∧ r < d
section
variable {w0 u u' : World} {s r d : Nat} {ss rs ds : Array Value}
theorem TwI.setD (h : TwI w0 u s r d ss rs ds) (k : Nat) (x : Value) : TwI w0 (u.setCell ⟨d, k, none⟩ x) s r d ss rs (ds.setIfInBounds k x) := by
  have h9 := h.ne
  exact ⟨h.S.far (p := ⟨d, k, none⟩) (show s ≠ d by omega) x, h.R.far (p := ⟨d, k, none⟩) (show r ≠ d by omega) x, h.D.set k x, h.b.setCell (p := ⟨d, k, none⟩) (show _ ≤ d by omega) x, h.ne⟩
theorem TwI.kept (h : TwI w0 u s r d ss rs ds) (hb : Below u.heap.size u u') : TwI w0 u' s r d ss rs ds := ⟨h.S.kept hb, h.R.kept hb, h.D.kept hb, below_then h.b hb, h.ne⟩
theorem TwI.grown (h : TwI w0 u s r d ss rs ds) {row : Option Nat} (hg : u.grownBy u' row) (hr : ∀ g, row = some g → d < g) : TwI w0 u' s r d ss rs ds := by
  have h9 := h.ne
  refine ⟨h.S.grown hg fun e => ?_, h.R.grown hg fun e => ?_, h.D.grown hg fun e => ?_, h.b.grown hg h.b.size fun g e => ?_, h.ne⟩
  · have := hr _ e.symm; omega
  · have := hr _ e.symm; omega
  · have := hr _ e.symm; omega
  · have := hr _ e; omega
theorem TwI.cell (h : TwI w0 u s r d ss rs ds) (k : Nat) : u.cell? ⟨s, k, none⟩ = ss[k]? ∧ u.cell? ⟨d, k, none⟩ = ds[k]? ∧ u.frozen? ⟨d, k, none⟩ = false := ⟨h.S.cell k, h.D.cell k, h.D.frozen k⟩
theorem TwI.big (h : TwI w0 u s r d ss rs ds) : d + 1 ≤ u.heap.size := h.D.lt
end
theorem own_setD {u : World} {base d : Nat} {e : TypeId} {z n : Nat} {v : Value} {xs : List Value} (h : u.ownsRow base e z v n xs) (hd : d < base) (k : Nat) (x : Value) : (u.setCell ⟨d, k, none⟩ x).ownsRow base e z v n xs := ownsRow_setCell_below h (a := ⟨d, k, none⟩) hd x
theorem VL.setD {u : World} {base d : Nat} {v : Value} {t : List Nat} (h : VL u base v t) (hd : d < base) (k : Nat) (x : Value) : VL (u.setCell ⟨d, k, none⟩ x) base v t := h.keep fun g hg => Below.heap_setCell _ _ _ _ (by have := (h.lt g hg).1; show g ≠ d; omega)
theorem own_kept {u u' : World} {base : Nat} {e : TypeId} {z n : Nat} {v : Value} {xs : List Value} (h : u.ownsRow base e z v n xs) (hb : Below u.heap.size u u') : u'.ownsRow base e z v n xs := own_keep h fun g hg => hb.block g (h.lt g hg).2
theorem VL.kept {u u' : World} {base : Nat} {v : Value} {t : List Nat} (h : VL u base v t) (hb : Below u.heap.size u u') : VL u' base v t := h.keep fun g hg => hb.block g (h.lt g hg).2
theorem VL.ty {u : World} {base g : Nat} {v : Value} {t : List Nat} (h : VL u base v t) (hv : v.ownBlock = some g) {e : TypeId} {cs : Array Value} {z : Nat × Nat} (hg : u.heap[g]? = some (.cells cs e z)) : e = 5 := by
  rcases h with ⟨rfl, _⟩ | ⟨g', cap, cur, y, rfl, _, h2, _⟩
  · cases hv
  · injection hv with hv
    have hv : g' = g := hv
    subst hv
    rw [h2] at hg
    injection hg with hg
    injection hg with _ e1 _
    exact e1.symm
theorem own_ty {u : World} {base g : Nat} {e e' : TypeId} {z n : Nat} {v : Value} {xs : List Value} (h : u.ownsRow base e z v n xs) (hv : v.ownBlock = some g) {cs : Array Value} {y : Nat × Nat} (hg : u.heap[g]? = some (.cells cs e' y)) : e' = e := by
  rcases h.2 with ⟨rfl, _⟩ | ⟨g', c, cur, rfl, _, h2, _⟩
  · cases hv
  · injection hv with hv
    have hv : g' = g := hv
    subst hv
    rw [h2] at hg
    injection hg with hg
    injection hg with _ e1 _
    exact e1.symm
/-- a row stands while a row of another type grows -/
theorem own_beside {u u' : World} {base b2 : Nat} {e e2 : TypeId} {z n z2 n2 : Nat} {v v2 : Value} {xs xs2 : List Value} (h : u.ownsRow base e z v n xs) (h2 : u.ownsRow b2 e2 z2 v2 n2 xs2) (hne : e ≠ e2) (hg : u.grownBy u' v2.ownBlock) : u'.ownsRow base e z v n xs :=
  own_keep h fun g hv => hg.block g (h.lt g hv).2 fun e9 => by
    rcases h.2 with ⟨rfl, _⟩ | ⟨g', c, cur, rfl, _, hc, _⟩
    · cases hv
    · injection hv with hv
      have hv : g' = g := hv
      subst hv
      exact hne (own_ty h2 e9.symm hc)
theorem VL.beside {u u' : World} {base b2 : Nat} {e2 : TypeId} {z2 n2 : Nat} {v v2 : Value} {t : List Nat} {xs2 : List Value} (h : VL u base v t) (h2 : u.ownsRow b2 e2 z2 v2 n2 xs2) (hne : e2 ≠ 5) (hg : u.grownBy u' v2.ownBlock) : VL u' base v t :=
  h.keep fun g hv => hg.block g (h.lt g hv).2 fun e9 => by
    rcases h2.2 with ⟨rfl, _⟩ | ⟨g', c, cur, rfl, _, hc, _⟩
    · cases e9
    · injection e9 with e9
      have e9 : g = g' := e9
      subst e9
      exact hne (h.ty hv hc)
end Go.Proofs.YtjfgfoeenajneaaGreatDoor.Sg
namespace Go.Proofs.YtjfgfoeenajneaaGreatDoor.Sg
open Go.RowKit

section
variable {P : Program}
theorem mapM_some {α β : Type} (f : α → Option β) : ∀ l : List α, (∀ a ∈ l, ∃ b, f a = some b) → ∃ r, l.mapM f = some r
  | [], _ => ⟨[], rfl⟩
  | a :: l, h => by
    obtain ⟨b, hb⟩ := h a (by simp)
    obtain ⟨r, hr⟩ := mapM_some f l fun x hx => h x (by simp [hx])
    exact ⟨b :: r, by rw [List.mapM_cons, hb, hr]; rfl⟩
theorem lits_int {t : TypeId} {q : IntKind} {n : Int} {D : Nat} (hu : P.underlying t = some (.int q)) (hw : (Lit.int q n).wf = true) : ∃ L, P.keyLits (D + 1) t [.int q n] = some L := by
  unfold Program.keyLits
  simp [hu, hw]
theorem lits_bool {t : TypeId} {b : Bool} {D : Nat} (hu : P.underlying t = some .bool) : ∃ L, P.keyLits (D + 1) t [.bool b] = some L := by
  unfold Program.keyLits
  simp [hu]
theorem lits_arr {t e : TypeId} {n D : Nat} {cs : List Value} (hu : P.underlying t = some (.array n e)) (hc : cs.length = P.cellsOf t) (h1 : P.cellsOf e = 1) (hall : ∀ i, i < n → ∃ v, cs[i]? = some v ∧ ∃ L, P.keyLits D e [v] = some L) : ∃ L, P.keyLits (D + 1) t cs = some L := by
  obtain ⟨r, hr⟩ := mapM_some (fun i => P.keyLits D e ((cs.drop (i * P.cellsOf e)).take (P.cellsOf e))) (List.range n) fun i hi => by
    obtain ⟨v, hv, L, hL⟩ := hall i (by simpa using hi)
    refine ⟨L, ?_⟩
    rw [h1, Nat.mul_one]
    obtain ⟨hl, hv⟩ := List.getElem?_eq_some_iff.1 hv
    rw [List.drop_eq_getElem_cons hl, hv]
    exact hL
  exact ⟨r.flatten, by unfold Program.keyLits; simp only [hu, hc, if_true, hr, Option.map_some]⟩
theorem lits_struct {t : TypeId} {fs : Array Field} {D : Nat} {cs : List Value} (hu : P.underlying t = some (.struct fs)) (hc : cs.length = P.cellsOf t) (hn : fs.all (·.name != "_") = true) (hall : ∀ f ∈ fs.toList, ∃ L, P.keyLits D f.type ((cs.drop f.offset).take (P.cellsOf f.type)) = some L) : ∃ L, P.keyLits (D + 1) t cs = some L := by
  obtain ⟨r, hr⟩ := mapM_some (fun f : Field => P.keyLits D f.type ((cs.drop f.offset).take (P.cellsOf f.type))) fs.toList hall
  exact ⟨r.flatten, by unfold Program.keyLits; simp only [hu, hc, hn, and_self, if_true, hr, Option.map_some]⟩
theorem same_self {t : TypeId} {cs : Array Value} (hk : P.keyTypeAt 4 t = true) (hf : (Value.agg cs).formed P t = true) (hl : ∃ D L, P.keyLits D t cs.toList = some L) (u : World) : (Op.equalIn 10000 t (.agg cs) (.agg cs)).run P u = .ok true u := by
  obtain ⟨D, L, hL⟩ := hl
  obtain ⟨r, h1, h2⟩ := run_equalIn_deep (P := P) 9996 4 t hk u D D _ _ L L hf hf hL hL
  rw [h2.2 rfl] at h1
  exact h1
theorem neq_self {t : TypeId} {cs : Array Value} (hk : P.keyTypeAt 4 t = true) (hf : (Value.agg cs).formed P t = true) (hl : ∃ D L, P.keyLits D t cs.toList = some L) (u : World) : (binOp .neq t (.agg cs) (.agg cs)).run P u = .ok (.bool false) u := by
  rw [run_neq_struct, same_self hk hf hl u]
  rfl
theorem eql_self {t : TypeId} {cs : Array Value} (hk : P.keyTypeAt 4 t = true) (hf : (Value.agg cs).formed P t = true) (hl : ∃ D L, P.keyLits D t cs.toList = some L) (u : World) : (binOp .eql t (.agg cs) (.agg cs)).run P u = .ok (.bool true) u := by
  rw [run_eql_struct, same_self hk hf hl u]
  rfl
end
theorem wf_u8 {n : Nat} (h : n < 256) : (Lit.int .u8 (n : Int)).wf = true := by
  have h1 : IntKind.u8.min = 0 := by decide
  have h2 : IntKind.u8.max = 255 := by decide
  simp [Lit.wf, h1, h2]
  omega
theorem wf_u16 {n : Nat} (h : n < 65536) : (Lit.int .u16 (n : Int)).wf = true := by
  have h1 : IntKind.u16.min = 0 := by decide
  have h2 : IntKind.u16.max = 65535 := by decide
  simp [Lit.wf, h1, h2]
  omega
theorem cells_comp : Tryz.prog.cellsOf 90 = 4 := by kernel_rfl
theorem cells_part : Tryz.prog.cellsOf 92 = 3 := by kernel_rfl
theorem cells_quant : Tryz.prog.cellsOf 81 = 66 := by kernel_rfl
theorem cells_c16 : Tryz.prog.cellsOf 83 = 16 := by kernel_rfl
theorem cells_t64 : Tryz.prog.cellsOf 79 = 64 := by kernel_rfl
theorem cells_bool : Tryz.prog.cellsOf 4 = 1 := by kernel_rfl
theorem cells_int : Tryz.prog.cellsOf 3 = 1 := by kernel_rfl
theorem neq_comp (c : CompM) (h : c.id < 256 ∧ c.h < 256 ∧ c.v < 256 ∧ c.q < 256) (u : World) : (binOp .neq 90 (.agg (compC c).toArray) (.agg (compC c).toArray)).run Tryz.prog u = .ok (.bool false) u := by
  refine neq_self (by kernel_rfl) ?_ ⟨2, lits_struct Tryz.underlying90 (by rw [cells_comp]; rfl) (by kernel_rfl) fun f hf => ?_⟩ u
  · simp only [Value.formed, Tryz.underlying90, cells_comp]
    rfl
  · simp only [List.mem_cons, List.not_mem_nil, or_false] at hf
    rcases hf with rfl | rfl | rfl | rfl
    all_goals (show ∃ L, _ = some L; rw [cell8])
    · exact lits_int Tryz.underlying5 (wf_u8 h.1)
    · exact lits_int Tryz.underlying5 (wf_u8 h.2.1)
    · exact lits_int Tryz.underlying5 (wf_u8 h.2.2.1)
    · exact lits_int Tryz.underlying5 (wf_u8 h.2.2.2)
theorem neq_part (c : PartM) (h : (Lit.int .i64 c.comp).wf = true ∧ c.dc < 256 ∧ c.ac < 256) (u : World) : (binOp .neq 92 (.agg (partC c).toArray) (.agg (partC c).toArray)).run Tryz.prog u = .ok (.bool false) u := by
  refine neq_self (by kernel_rfl) ?_ ⟨2, lits_struct Tryz.underlying92 (by rw [cells_part]; rfl) (by kernel_rfl) fun f hf => ?_⟩ u
  · simp only [Value.formed, Tryz.underlying92, cells_part]
    rfl
  · simp only [List.mem_cons, List.not_mem_nil, or_false] at hf
    rcases hf with rfl | rfl | rfl
    · show ∃ L, _ = some L
      rw [cells_int]
      exact lits_int Tryz.underlying3 h.1
    · show ∃ L, _ = some L
      rw [cell8]
      exact lits_int Tryz.underlying5 (wf_u8 h.2.1)
    · show ∃ L, _ = some L
      rw [cell8]
      exact lits_int Tryz.underlying5 (wf_u8 h.2.2)
theorem eql_cnts (cnt : List Nat) (hl : cnt.length = 16) (h : ∀ x ∈ cnt, x < 256) (u : World) : (binOp .eql 83 (.agg (u8s cnt).toArray) (.agg (u8s cnt).toArray)).run Tryz.prog u = .ok (.bool true) u := by
  refine eql_self (by kernel_rfl) ?_ ⟨2, lits_arr Tryz.underlying83 (by rw [cells_c16]; simp [u8s_length, hl]) cell8 fun i hi => ?_⟩ u
  · simp only [Value.formed, Tryz.underlying83, cells_c16, List.size_toArray, u8s_length, hl]
    rfl
  · exact ⟨_, u8s_get (by omega), lits_int Tryz.underlying5 (wf_u8 (h _ (getD_mem (by omega))))⟩
theorem neq_quant (q : QuantM) (h : QuantOk q) (u : World) : (binOp .neq 81 (.agg (quantC q).toArray) (.agg (quantC q).toArray)).run Tryz.prog u = .ok (.bool false) u := by
  have hlen : (quantC q).length = 66 := by simp [quantC, h.2.1]
  refine neq_self (by kernel_rfl) ?_ ⟨3, lits_struct Tryz.underlying81 (by rw [cells_quant]; simpa using hlen) (by kernel_rfl) fun f hf => ?_⟩ u
  · simp only [Value.formed, Tryz.underlying81, cells_quant, List.size_toArray, hlen]
    rfl
  · simp only [List.mem_cons, List.not_mem_nil, or_false] at hf
    rcases hf with rfl | rfl | rfl
    · show ∃ L, _ = some L
      rw [cell8]
      exact lits_int Tryz.underlying5 (wf_u8 h.1)
    · show ∃ L, _ = some L
      rw [cells_bool]
      exact lits_bool Tryz.underlying4
    · show ∃ L, _ = some L
      rw [cells_t64]
      refine lits_arr Tryz.underlying79 (by rw [cells_t64]; simp [quantC, h.2.1]) cell16 fun i hi => ?_
      have hx := h.2.2 (q.tab.getD i 0) (getD_mem (by rw [h.2.1]; exact hi))
      refine ⟨.int .u16 (q.tab.getD i 0 : Nat), ?_, lits_int Tryz.underlying78 (wf_u16 hx)⟩
      simp only [quantC, List.drop_succ_cons, List.drop_zero]
      rw [List.getElem?_take, if_pos hi, List.getElem?_map, List.getElem?_eq_getElem (by rw [h.2.1]; exact hi), List.getD_eq_getElem?_getD, List.getElem?_eq_getElem (by rw [h.2.1]; exact hi)]
      rfl
end Go.Proofs.YtjfgfoeenajneaaGreatDoor.Sg
namespace Go.Proofs.YtjfgfoeenajneaaGreatDoor.Sg
open Go.RowKit

theorem sz3P : (Tryz.prog.info? 92).map (·.size) = some 3 := by kernel_rfl
theorem sz4C : (Tryz.prog.info? 90).map (·.size) = some 4 := by kernel_rfl
set_option maxRecDepth 100000 in
set_option maxHeartbeats 4000000 in
theorem sameParts_true (l : List PartM) (n c1 c2 : Nat) (A1 A2 : Option Addr) (w : World) (h1 : Rows 3 w A1 n (l.flatMap partC)) (h2 : Rows 3 w A2 n (l.flatMap partC)) (hx : ∀ p ∈ l, (Lit.int .i64 p.comp).wf = true ∧ p.dc < 256 ∧ p.ac < 256) (hn : n ≤ 1152921504606846976) :
    Calls Tryz.prog 29 #[.slice A1 n c1, .slice A2 n c2] w fun e w' => e = .returned (.bool true) ∧ Below w.heap.size w w' := by
  obtain ⟨hl, ha1⟩ := rows_at (by decide) (fun p _ => (rfl : (partC p).length = 3)) h1
  obtain ⟨_, ha2⟩ := rows_at (by decide) (fun p _ => (rfl : (partC p).length = 3)) h2
  have HA := Lib.hid (And.intro ha1 (And.intro ha2 hl)); clear ha1 ha2 hl h1 h2
  have hself : ((n : Int) != (n : Int)) = false := by simp
  go_enter Tryz.func29, Tryz.ntmps29
  go_upto_region 4 with fail
  go_loopw [5] (fun i wr => ∃ k : Nat, k ≤ n ∧ i = .int .i64 k ∧ Below w.heap.size w wr) (fun i _ => n - (intOf i).toNat)
  case atStart => exact ⟨0, by omega, rfl, Below.refl _ _⟩
  case round =>
    obtain ⟨k, hk, rfl, hb⟩ := hrel
    by_cases hlt : k < n
    · obtain ⟨b1, o1, rfl, hc1⟩ := HA.out.1 (by omega)
      obtain ⟨b2, o2, rfl, hc2⟩ := HA.out.2.1 (by omega)
      obtain ⟨p, hpk⟩ : ∃ p, l[k]? = some p := ⟨l[k]'(by rw [HA.out.2.2]; exact hlt), List.getElem?_eq_getElem _⟩
      have d1 := range_below (hc1 k p hpk) hb
      have d2 := range_below (hc2 k p hpk) hb
      have hne := neq_part p (hx p (List.mem_of_getElem? hpk))
      have HL := Lib.hid (show (partC p).length = 3 from rfl)
      clear hc1 hc2 hpk
      generalize partC p = cs at d1 d2 hne HL
      have hk0 : 0 ≤ (k : Int) := by omega
      have hkn : (k : Int) < (n : Int) := by omega
      have hI : wr.rangeAt b1 (o1 + k * 3) cs ∧ wr.rangeAt b2 (o2 + k * 3) cs := ⟨d1, d2⟩
      go_upto_region 6 with fail
      refine Lex3.wp_region_lex [] (fun u : World => u.rangeAt b1 (o1 + k * 3) cs ∧ u.rangeAt b2 (o2 + k * 3) cs) (fun u n h => h) hI (by kernel_rfl) (by kernel_rfl) ?_
      try simp only [Act.put, zA, zB, zC]
      iterate 3 (refine Lex3.run_free (v := ?_) (by rfl) (by rfl) (fun u => ?_) ?_; rotate_left; (go_simp; try with_reducible rfl); simp only [Act.put, zA, zB, zC])
      refine Lex3.run_load (v := .agg cs.toArray) (by rfl) (by rfl) (fun u hu => val_load_mid 92 (.tmp 19) rfl b1 (o1 + k * 3) rfl cs _ (hu.1) Tryz.underlying92 rfl (by rw [HL.out]; exact sz3P)) ?_; simp only [Act.put, zA, zB, zC]
      iterate 3 (refine Lex3.run_free (v := ?_) (by rfl) (by rfl) (fun u => ?_) ?_; rotate_left; (go_simp; try with_reducible rfl); simp only [Act.put, zA, zB, zC])
      refine Lex3.run_load (v := .agg cs.toArray) (by rfl) (by rfl) (fun u hu => val_load_mid 92 (.tmp 23) rfl b2 (o2 + k * 3) rfl cs _ (hu.2) Tryz.underlying92 rfl (by rw [HL.out]; exact sz3P)) ?_; simp only [Act.put, zA, zB, zC]
      refine Lex3.run_free (v := ?_) (by rfl) (by rfl) (fun u => ?_) ?_; rotate_left; (go_simp; try with_reducible rfl); simp only [Act.put, zA, zB, zC]

      refine Lex3.run_nil (fun n3 => ?_)
      have hb2 : Below w.heap.size w (wr.drew.drewN n3) := below_drewN (below_drewN hb 1) n3
      clear hb d1 d2 hI
      generalize wr.drew.drewN n3 = w2 at hb2 ⊢
      go_wp2_with fail
      go_roundw
      case rel => exact ⟨k + 1, by omega, by go_num, hb2⟩
      case measure => simp [intOf]; omega
    · obtain rfl : k = n := by omega
      go_wp2_with fail
      go_ret
      exact ⟨rfl, hb⟩
set_option maxRecDepth 100000 in
set_option maxHeartbeats 4000000 in
theorem sameFrame_true (kind : Nat) (wd ht : Int) (l : List CompM) (n c1 c2 : Nat) (A1 A2 : Option Addr) (w : World) (h1 : Rows 4 w A1 n (l.flatMap compC)) (h2 : Rows 4 w A2 n (l.flatMap compC)) (hx : ∀ c ∈ l, c.id < 256 ∧ c.h < 256 ∧ c.v < 256 ∧ c.q < 256) (hn : n ≤ 1152921504606846976) :
    Calls Tryz.prog 28 #[.agg #[.int .u8 (kind : Int), .int .i64 wd, .int .i64 ht, .slice A1 n c1], .agg #[.int .u8 (kind : Int), .int .i64 wd, .int .i64 ht, .slice A2 n c2]] w fun e w' => e = .returned (.bool true) ∧ Below w.heap.size w w' := by
  obtain ⟨hl, ha1⟩ := rows_at (by decide) (fun p _ => (rfl : (compC p).length = 4)) h1
  obtain ⟨_, ha2⟩ := rows_at (by decide) (fun p _ => (rfl : (compC p).length = 4)) h2
  have HA := Lib.hid (And.intro ha1 (And.intro ha2 hl)); clear ha1 ha2 hl h1 h2
  have hself : ((n : Int) != (n : Int)) = false := by simp
  go_enter Tryz.func28, Tryz.ntmps28
  go_upto_region 1 with fail
  have hf1 : Blk ((w.alloc (.cells #[.int .u8 (kind : Int), .int .i64 wd, .int .i64 ht, .slice A1 n c1] 27)).alloc (.cells #[.int .u8 (kind : Int), .int .i64 wd, .int .i64 ht, .slice A2 n c2] 27)) w.heap.size 27 #[.int .u8 (kind : Int), .int .i64 wd, .int .i64 ht, .slice A1 n c1] := (Blk.new w _ _).alloc _
  have hf2 : Blk ((w.alloc (.cells #[.int .u8 (kind : Int), .int .i64 wd, .int .i64 ht, .slice A1 n c1] 27)).alloc (.cells #[.int .u8 (kind : Int), .int .i64 wd, .int .i64 ht, .slice A2 n c2] 27)) (w.heap.size + 1) 27 #[.int .u8 (kind : Int), .int .i64 wd, .int .i64 ht, .slice A2 n c2] := by
    have h9 := Blk.new (w.alloc (.cells #[.int .u8 (kind : Int), .int .i64 wd, .int .i64 ht, .slice A1 n c1] 27)) 27 #[.int .u8 (kind : Int), .int .i64 wd, .int .i64 ht, .slice A2 n c2]
    rwa [show (w.alloc (.cells #[.int .u8 (kind : Int), .int .i64 wd, .int .i64 ht, .slice A1 n c1] 27)).heap.size = w.heap.size + 1 by simp] at h9
  have hb1 : Below w.heap.size w ((w.alloc (.cells #[.int .u8 (kind : Int), .int .i64 wd, .int .i64 ht, .slice A1 n c1] 27)).alloc (.cells #[.int .u8 (kind : Int), .int .i64 wd, .int .i64 ht, .slice A2 n c2] 27)) := ((Below.refl _ _).alloc (Nat.le_refl _) _).alloc (by simp) _
  generalize ((w.alloc (.cells #[.int .u8 (kind : Int), .int .i64 wd, .int .i64 ht, .slice A1 n c1] 27)).alloc (.cells #[.int .u8 (kind : Int), .int .i64 wd, .int .i64 ht, .slice A2 n c2] 27)) = w1 at hf1 hf2 hb1 ⊢
  obtain ⟨f, hf⟩ : ∃ f, w.heap.size = f := ⟨_, rfl⟩
  rw [hf] at hf1 hf2
  simp only [hf]
  have HF := Lib.hid hf; clear hf
  have x0 : w1.cell? ⟨f, 0, none⟩ = some (.int .u8 (kind : Int)) := by rw [hf1.cell]; rfl
  have x1 : w1.cell? ⟨f, 1, none⟩ = some (.int .i64 wd) := by rw [hf1.cell]; rfl
  have x2 : w1.cell? ⟨f, 2, none⟩ = some (.int .i64 ht) := by rw [hf1.cell]; rfl
  have x3 : w1.cell? ⟨f, 3, none⟩ = some (.slice A1 n c1) := by rw [hf1.cell]; rfl
  have y0 : w1.cell? ⟨f + 1, 0, none⟩ = some (.int .u8 (kind : Int)) := by rw [hf2.cell]; rfl
  have y1 : w1.cell? ⟨f + 1, 1, none⟩ = some (.int .i64 wd) := by rw [hf2.cell]; rfl
  have y2 : w1.cell? ⟨f + 1, 2, none⟩ = some (.int .i64 ht) := by rw [hf2.cell]; rfl
  have y3 : w1.cell? ⟨f + 1, 3, none⟩ = some (.slice A2 n c2) := by rw [hf2.cell]; rfl
  go_upto_region 4 with fail
  clear x0 x1 x2 y0 y1 y2
  go_loopw [5] (fun i wr => ∃ k : Nat, k ≤ n ∧ i = .int .i64 k ∧ Below w1.heap.size w1 wr) (fun i _ => n - (intOf i).toNat)
  case atStart => exact ⟨0, by omega, rfl, Below.refl _ _⟩
  case round =>
    obtain ⟨k, hk, rfl, hb⟩ := hrel
    have x4 := below_cell hb x3
    have y4 := below_cell hb y3
    by_cases hlt : k < n
    · obtain ⟨b1, o1, rfl, hc1⟩ := HA.out.1 (by omega)
      obtain ⟨b2, o2, rfl, hc2⟩ := HA.out.2.1 (by omega)
      obtain ⟨p, hpk⟩ : ∃ p, l[k]? = some p := ⟨l[k]'(by rw [HA.out.2.2]; exact hlt), List.getElem?_eq_getElem _⟩
      have d1 := range_below (hc1 k p hpk) (below_then hb1 hb)
      have d2 := range_below (hc2 k p hpk) (below_then hb1 hb)
      have hne := neq_comp p (hx p (List.mem_of_getElem? hpk))
      have HL := Lib.hid (show (compC p).length = 4 from rfl)
      clear hc1 hc2 hpk
      generalize compC p = cs at d1 d2 hne HL
      have hk0 : 0 ≤ (k : Int) := by omega
      have hkn : (k : Int) < (n : Int) := by omega
      have hI : wr.cell? ⟨f, 3, none⟩ = some (.slice (some ⟨b1, o1, none⟩) n c1) ∧ wr.cell? ⟨f + 1, 3, none⟩ = some (.slice (some ⟨b2, o2, none⟩) n c2) ∧ wr.rangeAt b1 (o1 + k * 4) cs ∧ wr.rangeAt b2 (o2 + k * 4) cs := ⟨x4, y4, d1, d2⟩
      go_upto_region 6 with fail
      refine Lex3.wp_region_lex [] (fun u : World => u.cell? ⟨f, 3, none⟩ = some (.slice (some ⟨b1, o1, none⟩) n c1) ∧ u.cell? ⟨f + 1, 3, none⟩ = some (.slice (some ⟨b2, o2, none⟩) n c2) ∧ u.rangeAt b1 (o1 + k * 4) cs ∧ u.rangeAt b2 (o2 + k * 4) cs) (fun u n h => h) hI (by kernel_rfl) (by kernel_rfl) ?_
      try simp only [Act.put, zA, zB, zC]
      refine Lex3.run_free (v := ?_) (by rfl) (by rfl) (fun u => ?_) ?_; rotate_left; (go_simp; try with_reducible rfl); simp only [Act.put, zA, zB, zC]
      refine Lex3.run_load (v := ?_) (by rfl) (by rfl) (fun u hu => ?_) ?_; rotate_left; (obtain ⟨hu0, hu1, hu2, hu3⟩ := hu; go_simp; try with_reducible rfl); simp only [Act.put, zA, zB, zC]
      iterate 2 (refine Lex3.run_free (v := ?_) (by rfl) (by rfl) (fun u => ?_) ?_; rotate_left; (go_simp; try with_reducible rfl); simp only [Act.put, zA, zB, zC])
      refine Lex3.run_load (v := .agg cs.toArray) (by rfl) (by rfl) (fun u hu => val_load_mid 90 (.tmp 44) rfl b1 (o1 + k * 4) rfl cs _ (hu.2.2.1) Tryz.underlying90 rfl (by rw [HL.out]; exact sz4C)) ?_; simp only [Act.put, zA, zB, zC]
      refine Lex3.run_free (v := ?_) (by rfl) (by rfl) (fun u => ?_) ?_; rotate_left; (go_simp; try with_reducible rfl); simp only [Act.put, zA, zB, zC]
      refine Lex3.run_load (v := ?_) (by rfl) (by rfl) (fun u hu => ?_) ?_; rotate_left; (obtain ⟨hu0, hu1, hu2, hu3⟩ := hu; go_simp; try with_reducible rfl); simp only [Act.put, zA, zB, zC]
      iterate 2 (refine Lex3.run_free (v := ?_) (by rfl) (by rfl) (fun u => ?_) ?_; rotate_left; (go_simp; try with_reducible rfl); simp only [Act.put, zA, zB, zC])
      refine Lex3.run_load (v := .agg cs.toArray) (by rfl) (by rfl) (fun u hu => val_load_mid 90 (.tmp 49) rfl b2 (o2 + k * 4) rfl cs _ (hu.2.2.2) Tryz.underlying90 rfl (by rw [HL.out]; exact sz4C)) ?_; simp only [Act.put, zA, zB, zC]
      refine Lex3.run_free (v := ?_) (by rfl) (by rfl) (fun u => ?_) ?_; rotate_left; (go_simp; try with_reducible rfl); simp only [Act.put, zA, zB, zC]

      refine Lex3.run_nil (fun n3 => ?_)
      have hb2 : Below w1.heap.size w1 (wr.drew.drewN n3) := below_drewN (below_drewN hb 1) n3
      clear hb d1 d2 hI x4 y4
      generalize wr.drew.drewN n3 = w2 at hb2 ⊢
      go_wp2_with fail
      go_roundw
      case rel => exact ⟨k + 1, by omega, by go_num, hb2⟩
      case measure => simp [intOf]; omega
    · obtain rfl : k = n := by omega
      go_wp2_with fail
      go_ret
      exact ⟨rfl, below_then hb1 hb⟩
set_option maxRecDepth 100000 in
set_option maxHeartbeats 4000000 in
theorem sameSpec_true (cnt vals : List Nat) (v1 v2 : Value) (w : World) (hl : cnt.length = 16) (hc : ∀ x ∈ cnt, x < 256) (h1 : SlV w v1 vals) (h2 : SlV w v2 vals) (hv : ∀ x ∈ vals, x < 256) (hn : vals.length ≤ 1152921504606846976) :
    Calls Tryz.prog 31 #[.agg (specC cnt v1).toArray, .agg (specC cnt v2).toArray] w fun e w' => e = .returned (.bool true) ∧ Below w.heap.size w w' := by
  have heq := eql_cnts cnt hl hc
  have e1 : (specC cnt v1).toArray[16]? = some v1 := specC_val hl
  have e2 : (specC cnt v2).toArray[16]? = some v2 := specC_val hl
  have r1 := specC_range cnt v1
  have r2 := specC_range cnt v2
  have HS := Lib.hid (And.intro h1 h2); clear h1 h2
  have HE := Lib.hid (And.intro e1 (And.intro e2 (And.intro r1 r2))); clear e1 e2 r1 r2
  have HSZ := Lib.hid (show (Tryz.prog.info? 83).map (·.size) = some (u8s cnt).length by rw [u8s_length, hl]; exact size16)
  go_enter Tryz.func31, Tryz.ntmps31
  generalize (specC cnt v1).toArray = a1 at HE ⊢
  generalize (specC cnt v2).toArray = a2 at HE ⊢
  go_upto_region 1 with fail
  have hf1 : Blk ((w.alloc (.cells a1 85)).alloc (.cells a2 85)) w.heap.size 85 a1 := (Blk.new w _ _).alloc _
  have hf2 : Blk ((w.alloc (.cells a1 85)).alloc (.cells a2 85)) (w.heap.size + 1) 85 a2 := by
    have h9 := Blk.new (w.alloc (.cells a1 85)) 85 a2
    rwa [show (w.alloc (.cells a1 85)).heap.size = w.heap.size + 1 by simp] at h9
  have hb1 : Below w.heap.size w ((w.alloc (.cells a1 85)).alloc (.cells a2 85)) := ((Below.refl _ _).alloc (Nat.le_refl _) _).alloc (by simp) _
  generalize ((w.alloc (.cells a1 85)).alloc (.cells a2 85)) = w1 at hf1 hf2 hb1 ⊢
  obtain ⟨f, hf⟩ : ∃ f, w.heap.size = f := ⟨_, rfl⟩
  rw [hf] at hf1 hf2
  simp only [hf]
  have x16 : w1.cell? ⟨f, 16, none⟩ = some v1 := by rw [hf1.cell, HE.out.1]
  have y16 : w1.cell? ⟨f + 1, 16, none⟩ = some v2 := by rw [hf2.cell, HE.out.2.1]
  have HF := Lib.hid hf; clear hf
  go_wp2_with fail
  refine (sameBytes_true vals v1 v2 w1 (HS.out.1.below hb1) (HS.out.2.below hb1) hv hn).mono ?_
  rintro e w2 ⟨rfl, hb2⟩
  have hr1 := range_below (hf1.range 0 (u8s cnt) HE.out.2.2.1) hb2
  have hr2 := range_below (hf2.range 0 (u8s cnt) HE.out.2.2.2) hb2
  have HR := Lib.hid (And.intro hr1 hr2); clear hr1 hr2 x16 y16 hf1 hf2
  generalize hcs : u8s cnt = cs at HR HSZ heq
  go_wp2_with (first | (refine wpList_load_mid rfl _ _ rfl f 0 rfl _ _ HR.out.1 Tryz.underlying83 rfl HSZ.out ?_) | (refine wpList_load_mid rfl _ _ rfl (f + 1) 0 rfl _ _ HR.out.2 Tryz.underlying83 rfl HSZ.out ?_))
  go_ret
  exact ⟨rfl, below_then hb1 hb2⟩
end Go.Proofs.YtjfgfoeenajneaaGreatDoor.Sg
namespace Go.Proofs.YtjfgfoeenajneaaGreatDoor.Sg
open Go.RowKit

theorem sz66 : (Tryz.prog.info? 81).map (·.size) = some 66 := by kernel_rfl
theorem sz4F : (Tryz.prog.info? 27).map (·.size) = some 4 := by kernel_rfl
theorem range_two {u : World} {b o : Nat} {p : HuffM × Value} (h : u.rangeAt b o (huffC p)) : u.rangeAt b (o + 2) (specC p.1.cnt p.2) := fun j v hv => by
  rw [Nat.add_assoc]
  exact h (2 + j) v (by unfold huffC; rw [show 2 + j = j + 1 + 1 by omega, List.getElem?_cons_succ, List.getElem?_cons_succ]; exact hv)
set_option maxRecDepth 100000 in
set_option maxHeartbeats 16000000 in
theorem same_true (m : SegM) (vq vh vc vp vi vq' vh' vc' vp' vi' : Value) (w : World) (hm1 : SegAt w m vq vh vc vp vi) (hm2 : SegAt w m vq' vh' vc' vp' vi') (hok : SegOk m) (hwf : ∀ p ∈ m.parts, (Lit.int .i64 p.comp).wf = true) :
    Calls Tryz.prog 9 #[.agg (segC m vq vh vc vp vi), .agg (segC m vq' vh' vc' vp' vi')] w fun e w' => e = .returned (.bool true) ∧ Below w.heap.size w w' := by
  obtain ⟨⟨A1, k1, rfl, q1⟩, ⟨A2, k2, ps1, rfl, p1, h1, v1⟩, ⟨A3, k3, rfl, c1, _⟩, ⟨A4, k4, rfl, t1⟩, ⟨A5, k5, rfl, i1⟩⟩ := hm1
  obtain ⟨⟨B1, l1, rfl, q2⟩, ⟨B2, l2, ps2, rfl, p2, h2, v2⟩, ⟨B3, l3, rfl, c2, _⟩, ⟨B4, l4, rfl, t2⟩, ⟨B5, l5, rfl, i2⟩⟩ := hm2
  have fq := hok.fewQ
  have fh := hok.fewH
  obtain ⟨hlq, hq1⟩ := rows_at (by decide) (fun (q : QuantM) hq => show (quantC q).length = 66 by simp [quantC, (hok.quants q hq).2.1]) q1
  obtain ⟨_, hq2⟩ := rows_at (by decide) (fun (q : QuantM) hq => show (quantC q).length = 66 by simp [quantC, (hok.quants q hq).2.1]) q2
  have hin1 : ∀ p ∈ ps1, HuffOk p.1 := fun p hp => hok.huffs p.1 (by rw [← p1]; exact List.mem_map_of_mem hp)
  have hin2 : ∀ p ∈ ps2, HuffOk p.1 := fun p hp => hok.huffs p.1 (by rw [← p2]; exact List.mem_map_of_mem hp)
  obtain ⟨hlh1, hh1⟩ := rows_at (by decide) (fun p hp => huffC_length (hin1 p hp).len) h1
  obtain ⟨hlh2, hh2⟩ := rows_at (by decide) (fun p hp => huffC_length (hin2 p hp).len) h2
  have HQ := Lib.hid (And.intro hq1 (And.intro hq2 hlq)); clear hq1 hq2 hlq q1 q2
  have HH := Lib.hid (And.intro hh1 (And.intro hh2 (And.intro hlh1 (And.intro hlh2 (And.intro p1 p2))))); clear hh1 hh2 hlh1 hlh2 p1 p2 h1 h2
  have HIN := Lib.hid (And.intro hin1 (And.intro hin2 (And.intro v1 v2))); clear hin1 hin2 v1 v2
  have HC := Lib.hid (And.intro c1 c2); clear c1 c2
  have HT := Lib.hid (And.intro t1 t2); clear t1 t2
  have HI := Lib.hid (And.intro i1 i2); clear i1 i2
  have HOK := Lib.hid (And.intro hok hwf); clear hok hwf
  go_enter Tryz.func9, Tryz.ntmps9
  obtain ⟨a1, ha1⟩ : ∃ x, x = segC m (.slice A1 m.quants.length k1) (.slice A2 m.huffs.length k2) (.slice A3 m.comps.length k3) (.slice A4 m.parts.length k4) (.slice A5 m.ids.length k5) := ⟨_, rfl⟩
  obtain ⟨a2, ha2⟩ : ∃ x, x = segC m (.slice B1 m.quants.length l1) (.slice B2 m.huffs.length l2) (.slice B3 m.comps.length l3) (.slice B4 m.parts.length l4) (.slice B5 m.ids.length l5) := ⟨_, rfl⟩
  rw [← ha1, ← ha2]
  have HAA := Lib.hid (And.intro ha1 ha2); clear ha1 ha2
  go_upto_region 1 with fail
  have hf1 : Blk ((w.alloc (.cells a1 31)).alloc (.cells a2 31)) w.heap.size 31 a1 := (Blk.new w _ _).alloc _
  have hf2 : Blk ((w.alloc (.cells a1 31)).alloc (.cells a2 31)) (w.heap.size + 1) 31 a2 := by
    have h9 := Blk.new (w.alloc (.cells a1 31)) 31 a2
    rwa [show (w.alloc (.cells a1 31)).heap.size = w.heap.size + 1 by simp] at h9
  have hb1 : Below w.heap.size w ((w.alloc (.cells a1 31)).alloc (.cells a2 31)) := ((Below.refl _ _).alloc (Nat.le_refl _) _).alloc (by simp) _
  generalize ((w.alloc (.cells a1 31)).alloc (.cells a2 31)) = w1 at hf1 hf2 hb1 ⊢
  obtain ⟨s, hs⟩ : ∃ s, w.heap.size = s := ⟨_, rfl⟩
  rw [hs] at hf1 hf2
  simp only [hs]
  have HS := Lib.hid hs; clear hs
  rw [HAA.out.1] at hf1
  rw [HAA.out.2] at hf2
  have HRG := Lib.hid (And.intro (hf1.range 5 [.int .u8 (m.kind : Nat), .int .i64 m.width, .int .i64 m.height, .slice A3 m.comps.length k3] rfl) (hf2.range 5 [.int .u8 (m.kind : Nat), .int .i64 m.width, .int .i64 m.height, .slice B3 m.comps.length l3] rfl))
  go_wp2_with (first | (refine wpList_load_mid rfl _ _ rfl s 5 rfl _ _ HRG.out.1 Tryz.underlying27 rfl sz4F ?_) | (refine wpList_load_mid rfl _ _ rfl (s + 1) 5 rfl _ _ HRG.out.2 Tryz.underlying27 rfl sz4F ?_))
  refine (sameFrame_true m.kind m.width m.height m.comps m.comps.length k3 l3 A3 B3 w1 (HC.out.1.below hb1) (HC.out.2.below hb1) HOK.out.1.comps (by have := HOK.out.1.fewC; omega)).mono ?_
  rintro e w2 ⟨rfl, hb2⟩
  have hb3 := below_then hb1 hb2
  have hg1 := hf1.kept hb2
  have hg2 := hf2.kept hb2
  clear hf1 hf2 hb1 hb2 HRG
  have x9 : w2.cell? ⟨s, 9, none⟩ = some (.slice A4 m.parts.length k4) := by rw [hg1.cell]; rfl
  have y9 : w2.cell? ⟨s + 1, 9, none⟩ = some (.slice B4 m.parts.length l4) := by rw [hg2.cell]; rfl
  go_wp2_with fail
  refine (sameParts_true m.parts m.parts.length k4 l4 A4 B4 w2 (HT.out.1.below hb3) (HT.out.2.below hb3) (fun p hp => ⟨HOK.out.2 p hp, HOK.out.1.parts p hp⟩) (by have := HOK.out.1.fewP; omega)).mono ?_
  rintro e w3 ⟨rfl, hb4⟩
  have hb5 := below_then hb3 hb4
  have hf1 := hg1.kept hb4
  have hf2 := hg2.kept hb4
  clear hg1 hg2 hb3 hb4 x9 y9
  have x10 : w3.cell? ⟨s, 10, none⟩ = some (.slice A5 m.ids.length k5) := by rw [hf1.cell]; rfl
  have y10 : w3.cell? ⟨s + 1, 10, none⟩ = some (.slice B5 m.ids.length l5) := by rw [hf2.cell]; rfl
  go_wp2_with fail
  refine (sameBytes_true m.ids _ _ w3 ⟨A5, k5, rfl, HI.out.1.below hb5⟩ ⟨B5, l5, rfl, HI.out.2.below hb5⟩ HOK.out.1.ids (by have := HOK.out.1.fewI; omega)).mono ?_
  rintro e w4 ⟨rfl, hb6⟩
  have hb7 := below_then hb5 hb6
  have hg1 := hf1.kept hb6
  have hg2 := hf2.kept hb6
  clear hf1 hf2 hb5 hb6 x10 y10
  have x0 : w4.cell? ⟨s, 0, none⟩ = some (.int .u8 (m.code : Nat)) := by rw [hg1.cell]; rfl
  have x1 : w4.cell? ⟨s, 1, none⟩ = some (.int .i64 m.at_) := by rw [hg1.cell]; rfl
  have x2 : w4.cell? ⟨s, 2, none⟩ = some (.int .i64 m.end_) := by rw [hg1.cell]; rfl
  have x3 : w4.cell? ⟨s, 3, none⟩ = some (.slice A1 m.quants.length k1) := by rw [hg1.cell]; rfl
  have x4 : w4.cell? ⟨s, 4, none⟩ = some (.slice A2 m.huffs.length k2) := by rw [hg1.cell]; rfl
  have x11 : w4.cell? ⟨s, 11, none⟩ = some (.int .i64 m.restart) := by rw [hg1.cell]; rfl
  have x12 : w4.cell? ⟨s, 12, none⟩ = some (.string (Bs m.data)) := by rw [hg1.cell]; rfl
  have y0 : w4.cell? ⟨s + 1, 0, none⟩ = some (.int .u8 (m.code : Nat)) := by rw [hg2.cell]; rfl
  have y1 : w4.cell? ⟨s + 1, 1, none⟩ = some (.int .i64 m.at_) := by rw [hg2.cell]; rfl
  have y2 : w4.cell? ⟨s + 1, 2, none⟩ = some (.int .i64 m.end_) := by rw [hg2.cell]; rfl
  have y3 : w4.cell? ⟨s + 1, 3, none⟩ = some (.slice B1 m.quants.length l1) := by rw [hg2.cell]; rfl
  have y4 : w4.cell? ⟨s + 1, 4, none⟩ = some (.slice B2 m.huffs.length l2) := by rw [hg2.cell]; rfl
  have y11 : w4.cell? ⟨s + 1, 11, none⟩ = some (.int .i64 m.restart) := by rw [hg2.cell]; rfl
  have y12 : w4.cell? ⟨s + 1, 12, none⟩ = some (.string (Bs m.data)) := by rw [hg2.cell]; rfl
  clear hg1 hg2
  obtain ⟨nq, hnq⟩ : ∃ n, m.quants.length = n := ⟨_, rfl⟩
  obtain ⟨nh, hnh⟩ : ∃ n, m.huffs.length = n := ⟨_, rfl⟩
  rw [hnq] at x3 y3 HQ fq
  rw [hnh] at x4 y4 HH fh
  have HNN := Lib.hid (And.intro hnq hnh); clear hnq hnh
  go_upto_region 7 with fail
  clear x0 x1 x2 x11 x12 y0 y1 y2 y11 y12
  go_loopw [8] (fun i wr => ∃ k : Nat, k ≤ nq ∧ i = .int .i64 k ∧ Below w4.heap.size w4 wr) (fun i _ => nq - (intOf i).toNat)
  case atStart => exact ⟨0, by omega, rfl, Below.refl _ _⟩
  case round =>
    obtain ⟨k, hk, rfl, hb⟩ := hrel
    have x5 := below_cell hb x3
    have y5 := below_cell hb y3
    by_cases hlt : k < nq
    · obtain ⟨b1, o1, rfl, hc1⟩ := HQ.out.1 (by omega)
      obtain ⟨b2, o2, rfl, hc2⟩ := HQ.out.2.1 (by omega)
      obtain ⟨p, hpk⟩ : ∃ p, m.quants[k]? = some p := ⟨m.quants[k]'(by rw [HNN.out.1]; exact hlt), List.getElem?_eq_getElem _⟩
      have d1 := range_below (hc1 k p hpk) (below_then hb7 hb)
      have d2 := range_below (hc2 k p hpk) (below_then hb7 hb)
      have hqo := HOK.out.1.quants p (List.mem_of_getElem? hpk)
      have hne := neq_quant p hqo
      have HL := Lib.hid (show (quantC p).length = 66 by simp [quantC, hqo.2.1])
      clear hc1 hc2 hpk hqo
      generalize quantC p = cs at d1 d2 hne HL
      have hk0 : 0 ≤ (k : Int) := by omega
      have hkn : (k : Int) < (nq : Int) := by omega
      have hI : wr.cell? ⟨s, 3, none⟩ = some (.slice (some ⟨b1, o1, none⟩) nq k1) ∧ wr.cell? ⟨s + 1, 3, none⟩ = some (.slice (some ⟨b2, o2, none⟩) nq l1) ∧ wr.rangeAt b1 (o1 + k * 66) cs ∧ wr.rangeAt b2 (o2 + k * 66) cs := ⟨x5, y5, d1, d2⟩
      go_upto_region 9 with fail
      refine Lex3.wp_region_lex [] (fun u : World => u.cell? ⟨s, 3, none⟩ = some (.slice (some ⟨b1, o1, none⟩) nq k1) ∧ u.cell? ⟨s + 1, 3, none⟩ = some (.slice (some ⟨b2, o2, none⟩) nq l1) ∧ u.rangeAt b1 (o1 + k * 66) cs ∧ u.rangeAt b2 (o2 + k * 66) cs) (fun u n h => h) hI (by kernel_rfl) (by kernel_rfl) ?_
      try simp only [Act.put, zA, zB, zC]
      refine Lex3.run_free (v := ?_) (by rfl) (by rfl) (fun u => ?_) ?_; rotate_left; (go_simp; try with_reducible rfl); simp only [Act.put, zA, zB, zC]
      refine Lex3.run_load (v := ?_) (by rfl) (by rfl) (fun u hu => ?_) ?_; rotate_left; (obtain ⟨hu0, hu1, hu2, hu3⟩ := hu; go_simp; try with_reducible rfl); simp only [Act.put, zA, zB, zC]
      iterate 2 (refine Lex3.run_free (v := ?_) (by rfl) (by rfl) (fun u => ?_) ?_; rotate_left; (go_simp; try with_reducible rfl); simp only [Act.put, zA, zB, zC])
      refine Lex3.run_load (v := .agg cs.toArray) (by rfl) (by rfl) (fun u hu => val_load_mid 81 (.tmp 99) rfl b1 (o1 + k * 66) rfl cs _ (hu.2.2.1) Tryz.underlying81 rfl (by rw [HL.out]; exact sz66)) ?_; simp only [Act.put, zA, zB, zC]
      refine Lex3.run_free (v := ?_) (by rfl) (by rfl) (fun u => ?_) ?_; rotate_left; (go_simp; try with_reducible rfl); simp only [Act.put, zA, zB, zC]
      refine Lex3.run_load (v := ?_) (by rfl) (by rfl) (fun u hu => ?_) ?_; rotate_left; (obtain ⟨hu0, hu1, hu2, hu3⟩ := hu; go_simp; try with_reducible rfl); simp only [Act.put, zA, zB, zC]
      iterate 2 (refine Lex3.run_free (v := ?_) (by rfl) (by rfl) (fun u => ?_) ?_; rotate_left; (go_simp; try with_reducible rfl); simp only [Act.put, zA, zB, zC])
      refine Lex3.run_load (v := .agg cs.toArray) (by rfl) (by rfl) (fun u hu => val_load_mid 81 (.tmp 104) rfl b2 (o2 + k * 66) rfl cs _ (hu.2.2.2) Tryz.underlying81 rfl (by rw [HL.out]; exact sz66)) ?_; simp only [Act.put, zA, zB, zC]
      refine Lex3.run_free (v := ?_) (by rfl) (by rfl) (fun u => ?_) ?_; rotate_left; (go_simp; try with_reducible rfl); simp only [Act.put, zA, zB, zC]

      refine Lex3.run_nil (fun n3 => ?_)
      have hb2 : Below w4.heap.size w4 (wr.drew.drewN n3) := below_drewN (below_drewN hb 1) n3
      clear hb d1 d2 hI x5 y5
      generalize wr.drew.drewN n3 = w2 at hb2 ⊢
      go_wp2_with fail
      go_roundw
      case rel => exact ⟨k + 1, by omega, by go_num, hb2⟩
      case measure => simp [intOf]; omega
    obtain rfl : k = nq := by omega
    have hb8 := below_then hb7 hb
    have x6 := below_cell hb x4
    have y6 := below_cell hb y4
    clear x3 x4 y3 y4 hb7 hb HQ hlt hk
    generalize wr = w9 at hb8 x5 y5 x6 y6 ⊢
    go_upto_region 12 with fail
    clear x5 y5
    go_loopw [9] (fun i wt => ∃ k : Nat, k ≤ nh ∧ i = .int .i64 k ∧ Below w9.heap.size w9 wt) (fun i _ => nh - (intOf i).toNat)
    case atStart => exact ⟨0, by omega, rfl, Below.refl _ _⟩
    case round =>
      obtain ⟨k, hk, rfl, hb⟩ := hrel
      have x5 := below_cell hb x6
      have y5 := below_cell hb y6
      by_cases hlt : k < nh
      · obtain ⟨b1, o1, rfl, hc1⟩ := HH.out.1 (by omega)
        obtain ⟨b2, o2, rfl, hc2⟩ := HH.out.2.1 (by omega)
        obtain ⟨p, hpk⟩ : ∃ p, ps1[k]? = some p := ⟨ps1[k]'(by rw [HH.out.2.2.1]; exact hlt), List.getElem?_eq_getElem _⟩
        obtain ⟨q, hqk⟩ : ∃ p, ps2[k]? = some p := ⟨ps2[k]'(by rw [HH.out.2.2.2.1]; exact hlt), List.getElem?_eq_getElem _⟩
        have hpq : p.1 = q.1 := by
          have h8 : m.huffs[k]? = some p.1 := by rw [← HH.out.2.2.2.2.1, List.getElem?_map, hpk]; rfl
          have h9 : m.huffs[k]? = some q.1 := by rw [← HH.out.2.2.2.2.2, List.getElem?_map, hqk]; rfl
          rw [h8] at h9
          injection h9
        have d1 := range_below (hc1 k p hpk) (below_then hb8 hb)
        have d2 := range_below (hc2 k q hqk) (below_then hb8 hb)
        have hpo := HIN.out.1 p (List.mem_of_getElem? hpk)
        have hs1 := ((HIN.out.2.2.1 p (List.mem_of_getElem? hpk)).below (below_then hb8 hb)).v
        have hs2 := ((HIN.out.2.2.2 q (List.mem_of_getElem? hqk)).below (below_then hb8 hb)).v
        rw [← hpq] at hs2
        have e1 := range_two d1
        have e2 := range_two d2
        rw [← hpq] at e2
        have z1 : wr.cell? ⟨b1, o1 + k * 19, none⟩ = some (.int .u8 (p.1.cls : Nat)) := d1 0 _ rfl
        have z2 : wr.cell? ⟨b1, o1 + k * 19 + 1, none⟩ = some (.int .u8 (p.1.id : Nat)) := d1 1 _ rfl
        have z3 : wr.cell? ⟨b2, o2 + k * 19, none⟩ = some (.int .u8 (p.1.cls : Nat)) := by rw [hpq]; exact d2 0 _ rfl
        have z4 : wr.cell? ⟨b2, o2 + k * 19 + 1, none⟩ = some (.int .u8 (p.1.id : Nat)) := by rw [hpq]; exact d2 1 _ rfl
        have HZ := Lib.hid (And.intro z1 (And.intro z2 (And.intro z3 z4))); clear z1 z2 z3 z4
        have hss := fun u (hb : Below wr.heap.size wr u) => sameSpec_true p.1.cnt p.1.vals p.2 q.2 u hpo.len hpo.cnt (hs1.below hb) (hs2.below hb) hpo.vals hpo.few
        have HSS := Lib.hid hss; clear hss
        have HL := Lib.hid (And.intro (show (specC p.1.cnt p.2).length = 17 by unfold specC; rw [List.length_append, u8s_length, hpo.len]; rfl) (show (specC p.1.cnt q.2).length = 17 by unfold specC; rw [List.length_append, u8s_length, hpo.len]; rfl))
        clear hc1 hc2 hpk hqk hpq d1 d2 hs1 hs2 hpo
        generalize specC p.1.cnt p.2 = cs1 at e1 HL HSS
        generalize specC p.1.cnt q.2 = cs2 at e2 HL HSS
        generalize p.1.cls = X at HZ
        generalize p.1.id = Y at HZ
        have hk0 : 0 ≤ (k : Int) := by omega
        have hkn : (k : Int) < (nh : Int) := by omega
        have hI : wr.cell? ⟨s, 4, none⟩ = some (.slice (some ⟨b1, o1, none⟩) nh k2) ∧ wr.cell? ⟨s + 1, 4, none⟩ = some (.slice (some ⟨b2, o2, none⟩) nh l2) ∧ wr.rangeAt b1 (o1 + k * 19 + 2) cs1 ∧ wr.rangeAt b2 (o2 + k * 19 + 2) cs2 := ⟨x5, y5, e1, e2⟩
        go_upto_region 14 with fail
        refine Lex3.wp_region_lex [] (fun u : World => u.cell? ⟨s, 4, none⟩ = some (.slice (some ⟨b1, o1, none⟩) nh k2) ∧ u.cell? ⟨s + 1, 4, none⟩ = some (.slice (some ⟨b2, o2, none⟩) nh l2) ∧ u.rangeAt b1 (o1 + k * 19 + 2) cs1 ∧ u.rangeAt b2 (o2 + k * 19 + 2) cs2) (fun u n h => h) hI (by kernel_rfl) (by kernel_rfl) ?_
        try simp only [Act.put, zA, zB, zC]
        refine Lex3.run_free (v := ?_) (by rfl) (by rfl) (fun u => ?_) ?_; rotate_left; (go_simp; try with_reducible rfl); simp only [Act.put, zA, zB, zC]
        refine Lex3.run_load (v := ?_) (by rfl) (by rfl) (fun u hu => ?_) ?_; rotate_left; (obtain ⟨hu0, hu1, hu2, hu3⟩ := hu; go_simp; try with_reducible rfl); simp only [Act.put, zA, zB, zC]
        iterate 3 (refine Lex3.run_free (v := ?_) (by rfl) (by rfl) (fun u => ?_) ?_; rotate_left; (go_simp; try with_reducible rfl); simp only [Act.put, zA, zB, zC])
        refine Lex3.run_load (v := .agg cs1.toArray) (by rfl) (by rfl) (fun u hu => val_load_mid 85 (.tmp 118) rfl b1 (o1 + k * 19 + 2) rfl cs1 _ (hu.2.2.1) Tryz.underlying85 rfl (by rw [HL.out.1]; exact size17)) ?_; simp only [Act.put, zA, zB, zC]
        refine Lex3.run_free (v := ?_) (by rfl) (by rfl) (fun u => ?_) ?_; rotate_left; (go_simp; try with_reducible rfl); simp only [Act.put, zA, zB, zC]
        refine Lex3.run_load (v := ?_) (by rfl) (by rfl) (fun u hu => ?_) ?_; rotate_left; (obtain ⟨hu0, hu1, hu2, hu3⟩ := hu; go_simp; try with_reducible rfl); simp only [Act.put, zA, zB, zC]
        iterate 3 (refine Lex3.run_free (v := ?_) (by rfl) (by rfl) (fun u => ?_) ?_; rotate_left; (go_simp; try with_reducible rfl); simp only [Act.put, zA, zB, zC])
        refine Lex3.run_load (v := .agg cs2.toArray) (by rfl) (by rfl) (fun u hu => val_load_mid 85 (.tmp 124) rfl b2 (o2 + k * 19 + 2) rfl cs2 _ (hu.2.2.2) Tryz.underlying85 rfl (by rw [HL.out.2]; exact size17)) ?_; simp only [Act.put, zA, zB, zC]

        refine Lex3.run_eff (by rfl) (by rfl) (fun n1 K1 hK1 => ?_)
        go_simp
        refine (HSS.out (wr.drewN (1 + n1)) (below_drewN (Below.refl _ _) (1 + n1))).mono ?_
        rintro e w5 ⟨rfl, hb9⟩
        have hb10 := below_then (below_drewN (Below.refl wr.heap.size wr) (1 + n1)) hb9
        refine hK1 _ _ ⟨below_cell hb10 x5, below_cell hb10 y5, range_below e1 hb10, range_below e2 hb10⟩ ?_
        clear hK1 K1 hI hb9
        try simp only [Act.put, zA, zB, zC]
        refine Lex3.run_free (v := ?_) (by rfl) (by rfl) (fun u => ?_) ?_; rotate_left; (go_simp; try with_reducible rfl); simp only [Act.put, zA, zB, zC]

        refine Lex3.run_nil (fun n3 => ?_)
        have hb11 := below_drewN hb10 n3
        clear hb10 e1 e2 HL HSS
        generalize w5.drewN n3 = w6 at hb11 ⊢
        have x7 := below_cell hb11 x5
        have y7 := below_cell hb11 y5
        have z5 := below_cell hb11 HZ.out.1
        have z6 := below_cell hb11 HZ.out.2.1
        have z7 := below_cell hb11 HZ.out.2.2.1
        have z8 := below_cell hb11 HZ.out.2.2.2
        have hb12 := below_then hb hb11
        clear hb11 hb x5 y5 HZ
        have hI : w6.cell? ⟨s, 4, none⟩ = some (.slice (some ⟨b1, o1, none⟩) nh k2) ∧ w6.cell? ⟨s + 1, 4, none⟩ = some (.slice (some ⟨b2, o2, none⟩) nh l2) ∧ w6.cell? ⟨b1, o1 + k * 19, none⟩ = some (.int .u8 (X : Nat)) ∧ w6.cell? ⟨b2, o2 + k * 19, none⟩ = some (.int .u8 (X : Nat)) ∧ w6.cell? ⟨b1, o1 + k * 19 + 1, none⟩ = some (.int .u8 (Y : Nat)) ∧ w6.cell? ⟨b2, o2 + k * 19 + 1, none⟩ = some (.int .u8 (Y : Nat)) := ⟨x7, y7, z5, z7, z6, z8⟩
        go_upto_region 15 with fail
        refine Lex3.wp_region_lex [] (fun w6 : World => w6.cell? ⟨s, 4, none⟩ = some (.slice (some ⟨b1, o1, none⟩) nh k2) ∧ w6.cell? ⟨s + 1, 4, none⟩ = some (.slice (some ⟨b2, o2, none⟩) nh l2) ∧ w6.cell? ⟨b1, o1 + k * 19, none⟩ = some (.int .u8 (X : Nat)) ∧ w6.cell? ⟨b2, o2 + k * 19, none⟩ = some (.int .u8 (X : Nat)) ∧ w6.cell? ⟨b1, o1 + k * 19 + 1, none⟩ = some (.int .u8 (Y : Nat)) ∧ w6.cell? ⟨b2, o2 + k * 19 + 1, none⟩ = some (.int .u8 (Y : Nat))) (fun u n h => h) hI (by kernel_rfl) (by kernel_rfl) ?_
        try simp only [Act.put, zA, zB, zC]
        iterate 3 (refine Lex3.run_free (v := ?_) (by rfl) (by rfl) (fun u => ?_) ?_; rotate_left; (go_simp; try with_reducible rfl); simp only [Act.put, zA, zB, zC])
        refine Lex3.run_free (v := ?_) (by rfl) (by kernel_rfl) (fun u => ?_) ?_; rotate_left; (go_simp; try with_reducible rfl); simp only [Act.put, zA, zB, zC]
        refine Lex3.run_load (v := ?_) (by rfl) (by kernel_rfl) (fun u hu => ?_) ?_; rotate_left; (obtain ⟨hu0, hu1, hu2, hu3, hu4, hu5⟩ := hu; go_simp; try with_reducible rfl); simp only [Act.put, zA, zB, zC]
        iterate 3 (refine Lex3.run_free (v := ?_) (by rfl) (by kernel_rfl) (fun u => ?_) ?_; rotate_left; (go_simp; try with_reducible rfl); simp only [Act.put, zA, zB, zC])
        refine Lex3.run_load (v := ?_) (by rfl) (by kernel_rfl) (fun u hu => ?_) ?_; rotate_left; (obtain ⟨hu0, hu1, hu2, hu3, hu4, hu5⟩ := hu; go_simp; try with_reducible rfl); simp only [Act.put, zA, zB, zC]
        refine Lex3.run_free (v := ?_) (by rfl) (by kernel_rfl) (fun u => ?_) ?_; rotate_left; (go_simp; try with_reducible rfl); simp only [Act.put, zA, zB, zC]
        refine Lex3.run_load (v := ?_) (by rfl) (by kernel_rfl) (fun u hu => ?_) ?_; rotate_left; (obtain ⟨hu0, hu1, hu2, hu3, hu4, hu5⟩ := hu; go_simp; try with_reducible rfl); simp only [Act.put, zA, zB, zC]
        iterate 3 (refine Lex3.run_free (v := ?_) (by rfl) (by kernel_rfl) (fun u => ?_) ?_; rotate_left; (go_simp; try with_reducible rfl); simp only [Act.put, zA, zB, zC])
        refine Lex3.run_load (v := ?_) (by rfl) (by kernel_rfl) (fun u hu => ?_) ?_; rotate_left; (obtain ⟨hu0, hu1, hu2, hu3, hu4, hu5⟩ := hu; go_simp; try with_reducible rfl); simp only [Act.put, zA, zB, zC]
        refine Lex3.run_free (v := ?_) (by rfl) (by kernel_rfl) (fun u => ?_) ?_; rotate_left; (go_simp; try with_reducible rfl); simp only [Act.put, zA, zB, zC]
        iterate 2 (refine Lex3.run_free (v := ?_) (by rfl) (by rfl) (fun u => ?_) ?_; rotate_left; (go_simp; try with_reducible rfl); simp only [Act.put, zA, zB, zC])
        refine Lex3.run_free (v := ?_) (by rfl) (by kernel_rfl) (fun u => ?_) ?_; rotate_left; (go_simp; try with_reducible rfl); simp only [Act.put, zA, zB, zC]
        refine Lex3.run_load (v := ?_) (by rfl) (by kernel_rfl) (fun u hu => ?_) ?_; rotate_left; (obtain ⟨hu0, hu1, hu2, hu3, hu4, hu5⟩ := hu; go_simp; try with_reducible rfl); simp only [Act.put, zA, zB, zC]
        iterate 3 (refine Lex3.run_free (v := ?_) (by rfl) (by kernel_rfl) (fun u => ?_) ?_; rotate_left; (go_simp; try with_reducible rfl); simp only [Act.put, zA, zB, zC])
        refine Lex3.run_load (v := ?_) (by rfl) (by kernel_rfl) (fun u hu => ?_) ?_; rotate_left; (obtain ⟨hu0, hu1, hu2, hu3, hu4, hu5⟩ := hu; go_simp; try with_reducible rfl); simp only [Act.put, zA, zB, zC]
        refine Lex3.run_free (v := ?_) (by rfl) (by kernel_rfl) (fun u => ?_) ?_; rotate_left; (go_simp; try with_reducible rfl); simp only [Act.put, zA, zB, zC]
        refine Lex3.run_load (v := ?_) (by rfl) (by kernel_rfl) (fun u hu => ?_) ?_; rotate_left; (obtain ⟨hu0, hu1, hu2, hu3, hu4, hu5⟩ := hu; go_simp; try with_reducible rfl); simp only [Act.put, zA, zB, zC]
        iterate 3 (refine Lex3.run_free (v := ?_) (by rfl) (by kernel_rfl) (fun u => ?_) ?_; rotate_left; (go_simp; try with_reducible rfl); simp only [Act.put, zA, zB, zC])
        refine Lex3.run_load (v := ?_) (by rfl) (by kernel_rfl) (fun u hu => ?_) ?_; rotate_left; (obtain ⟨hu0, hu1, hu2, hu3, hu4, hu5⟩ := hu; go_simp; try with_reducible rfl); simp only [Act.put, zA, zB, zC]
        refine Lex3.run_free (v := ?_) (by rfl) (by kernel_rfl) (fun u => ?_) ?_; rotate_left; (go_simp; try with_reducible rfl); simp only [Act.put, zA, zB, zC]
        refine Lex3.run_free (v := ?_) (by rfl) (by rfl) (fun u => ?_) ?_; rotate_left; (go_simp; try with_reducible rfl); simp only [Act.put, zA, zB, zC]

        refine Lex3.run_nil (fun n4 => ?_)
        have hb13 : Below w9.heap.size w9 (w6.drew.drewN n4) := below_drewN (below_drewN hb12 1) n4
        clear hb12 hI x7 y7 z5 z6 z7 z8
        generalize w6.drew.drewN n4 = w7 at hb13 ⊢
        go_wp2_with fail
        go_roundw
        case rel => exact ⟨k + 1, by omega, by go_num, hb13⟩
        case measure => simp [intOf]; omega
      · obtain rfl : k = nh := by omega
        go_wp2_with fail
        go_ret
        exact ⟨rfl, below_then hb8 hb⟩
end Go.Proofs.YtjfgfoeenajneaaGreatDoor.Sg
