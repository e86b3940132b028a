/- Frames: the document's check. Frames: the document's reading. -/
import Derived.Test.YtjfgfoeenajneaaGreatDoorGA4
namespace Go.Proofs.YtjfgfoeenajneaaGreatDoor.Sg
open Go.RowKit

def compC (c : CompM) : List Value := [.int .u8 (c.id : Nat), .int .u8 (c.h : Nat), .int .u8 (c.v : Nat), .int .u8 (c.q : Nat)]
/-- cells of structs of s cells each, behind a slice -/
def Rows (s : Nat) (w : World) (A : Option Addr) (n : Nat) (xs : List Value) : Prop :=
  xs.length = n * s ∧ (0 < n → ∃ b o, A = some ⟨b, o, none⟩ ∧ ∀ j, j < n * s → w.cell? ⟨b, o + j, none⟩ = xs[j]?)
theorem Rows.below {s : Nat} {w w' : World} {A : Option Addr} {n : Nat} {xs : List Value} (h : Rows s w A n xs) (hb : Below w.heap.size w w') : Rows s w' A n xs := by
  refine ⟨h.1, fun hn => ?_⟩
  obtain ⟨b, o, hA, hc⟩ := h.2 hn
  refine ⟨b, o, hA, fun j hj => ?_⟩
  have hj' : j < xs.length := by rw [h.1]; exact hj
  have := hc j hj
  rw [List.getElem?_eq_getElem hj'] at this ⊢
  exact below_cell hb this
theorem Rows.drewN {s : Nat} {w : World} {A : Option Addr} {n : Nat} {xs : List Value} (h : Rows s w A n xs) (k : Nat) : Rows s (w.drewN k) A n xs := h
theorem Rows.own {s : Nat} {w : World} {base : Nat} {e : TypeId} {n cap : Nat} {A : Option Addr} {xs : List Value} (h : w.ownsRow base e s (.slice A n cap) n xs) : Rows s w A n xs := by
  refine ⟨h.1, fun hn => ?_⟩
  rcases h.2 with ⟨hv, h0⟩ | ⟨g, c, cur, hv, _, hg, hnc, _, hcs, ht⟩
  · omega
  · injection hv with h1 _ _
    subst h1
    refine ⟨g, 0, rfl, fun j hj => ?_⟩
    rw [Nat.zero_add, (show Blk w g e cur from hg).cell, ← ht, List.getElem?_take, if_pos hj, Array.getElem?_toList]
def fst4 (l : List CompM) (k : Nat) : Nat := (l.map (·.id)).getD k 0
def hst4 (l : List CompM) (k : Nat) : Nat := (l.map (·.h)).getD k 0
def vst4 (l : List CompM) (k : Nat) : Nat := (l.map (·.v)).getD k 0
def qst4 (l : List CompM) (k : Nat) : Nat := (l.map (·.q)).getD k 0
/-- the cells of component k -/
structure CellsC (w : World) (b o : Nat) (l : List CompM) (k : Nat) : Prop where
  a : w.cell? ⟨b, o, none⟩ = some (.int .u8 (fst4 l k : Nat))
  h : w.cell? ⟨b, o + 1, none⟩ = some (.int .u8 (hst4 l k : Nat))
  v : w.cell? ⟨b, o + 2, none⟩ = some (.int .u8 (vst4 l k : Nat))
  q : w.cell? ⟨b, o + 3, none⟩ = some (.int .u8 (qst4 l k : Nat))
theorem CellsC.below {w w' : World} {b o k : Nat} {l : List CompM} (h : CellsC w b o l k) (hb : Below w.heap.size w w') : CellsC w' b o l k :=
  ⟨below_cell hb h.a, below_cell hb h.h, below_cell hb h.v, below_cell hb h.q⟩
theorem flat4 : ∀ (l : List CompM) (k i : Nat), i < 4 → (l.flatMap compC)[k * 4 + i]? = (l[k]?).bind fun c => (compC c)[i]?
  | [], k, i, _ => by simp
  | c :: l, 0, i, hi => by
    rw [List.flatMap_cons, List.getElem?_append_left (by simp [compC]; omega)]
    simp
  | c :: l, k + 1, i, hi => by
    rw [List.flatMap_cons, List.getElem?_append_right (by simp [compC]; omega)]
    have := flat4 l k i hi
    rw [show (compC c).length = 4 from rfl, show (k + 1) * 4 + i - 4 = k * 4 + i by omega, this]
    simp
theorem comps_at {w : World} {A : Option Addr} {n : Nat} {l : List CompM} (h : Rows 4 w A n (l.flatMap compC)) :
    l.length = n ∧ (0 < n → ∃ b o, A = some ⟨b, o, none⟩ ∧ ∀ k, k < n → CellsC w b (o + k * 4) l k) := by
  have hl : ∀ l : List CompM, (l.flatMap compC).length = l.length * 4 := fun l => by
    induction l with
    | nil => rfl
    | cons c l ih => rw [List.flatMap_cons, List.length_append, ih]; simp [compC]; omega
  have hn : l.length = n := by have := h.1; rw [hl] at this; omega
  refine ⟨hn, fun h0 => ?_⟩
  obtain ⟨b, o, hA, hc⟩ := h.2 h0
  refine ⟨b, o, hA, fun k hk => ?_⟩
  have key : ∀ i, i < 4 → w.cell? ⟨b, o + k * 4 + i, none⟩ = (compC (l[k]'(by omega)))[i]? := fun i hi => by
    rw [Nat.add_assoc, hc (k * 4 + i) (by omega), flat4 l k i hi, List.getElem?_eq_getElem (by omega)]
    rfl
  have g : ∀ f : CompM → Nat, (l.map f).getD k 0 = f (l[k]'(by omega)) := fun f => by
    rw [List.getD_eq_getElem?_getD, List.getElem?_map, List.getElem?_eq_getElem (by omega)]
    rfl
  exact ⟨by unfold fst4; rw [g]; exact key 0 (by omega), by unfold hst4; rw [g]; exact key 1 (by omega), by unfold vst4; rw [g]; exact key 2 (by omega), by unfold qst4; rw [g]; exact key 3 (by omega)⟩

theorem any_q {l : List CompM} {k : Nat} (h : k < l.length) : (l.take (k + 1)).any (fun c => decide (3 < c.q)) = ((l.take k).any (fun c => decide (3 < c.q)) || decide (3 < qst4 l k)) := by
  rw [List.take_succ_eq_append_getElem h, List.any_append]
  unfold qst4
  rw [List.getD_eq_getElem?_getD, List.getElem?_map, List.getElem?_eq_getElem h]
  simp
set_option maxRecDepth 100000 in
set_option maxHeartbeats 8000000 in
theorem ids_any (kind : Nat) (wd ht : Int) (l : List CompM) (A : Option Addr) (n cap : Nat) (w : World) (hc : Rows 4 w A n (l.flatMap compC)) (hn : n ≤ 1152921504606846976) :
    Calls Tryz.prog 118 #[.agg #[.int .u8 (kind : Int), .int .i64 wd, .int .i64 ht, .slice A n cap]] w fun e w' => e = .returned (.bool (idsM l)) ∧ Below w.heap.size w w' := by
  obtain ⟨hln, hcell⟩ := comps_at hc
  have hu : Blk (w.alloc (.cells #[.int .u8 (kind : Int), .int .i64 wd, .int .i64 ht, .slice A n cap] 27)) w.heap.size 27 #[.int .u8 (kind : Int), .int .i64 wd, .int .i64 ht, .slice A n cap] := Blk.new w _ _
  have hb : Below w.heap.size w (w.alloc (.cells #[.int .u8 (kind : Int), .int .i64 wd, .int .i64 ht, .slice A n cap] 27)) := (Below.refl _ _).alloc (Nat.le_refl _) _
  have hcell1 : 0 < n → ∃ b o, A = some ⟨b, o, none⟩ ∧ ∀ m k, k < n → CellsC ((w.alloc (.cells #[.int .u8 (kind : Int), .int .i64 wd, .int .i64 ht, .slice A n cap] 27)).drewN m) b (o + k * 4) l k := fun h => by
    obtain ⟨b, o, hA, hk⟩ := hcell h
    exact ⟨b, o, hA, fun m k hkn => (hk k hkn).below (below_drewN hb m)⟩
  clear hcell
  have c3 : ∀ m, ((w.alloc (.cells #[.int .u8 (kind : Int), .int .i64 wd, .int .i64 ht, .slice A n cap] 27)).drewN m).cell? ⟨w.heap.size, 3, none⟩ = some (.slice A n cap) := fun m => by
    show World.cell? _ _ = _
    rw [(hu.drewN m).cell]; rfl
  have HLN := Lib.hid hln; clear hln
  go_enter Tryz.func118, Tryz.ntmps118
  go_upto_region 1 with fail
  generalize (w.alloc (.cells #[.int .u8 (kind : Int), .int .i64 wd, .int .i64 ht, .slice A n cap] 27)) = w1 at hu hb hcell1 c3 ⊢
  generalize w.heap.size = a at hu c3 ⊢
  clear hu
  go_wp2_with fail
  go_loopw [3] (fun i wr => ∃ k : Nat, k ≤ n ∧ i = .int .i64 k ∧ ((l.map (·.id)).take k).Nodup ∧ (l.take k).any (fun c => decide (3 < c.q)) = false ∧ ∃ m, wr = w1.drewN m) (fun i _ => n - (intOf i).toNat)
  case atStart => exact ⟨0, by omega, rfl, by simp, rfl, 0, rfl⟩
  case round =>
    obtain ⟨k, hk, rfl, hnd, hq, m, rfl⟩ := hrel
    have HND := Lib.hid (And.intro hnd hq); clear hnd hq
    have c3m := c3 m
    by_cases hlt : k < n
    · obtain ⟨b, o, rfl, hcell⟩ := hcell1 (by omega)
      have HC := Lib.hid hcell; clear hcell hcell1
      have q3 := (HC.out m k hlt).q
      have hqn := any_q (l := l) (k := k) (by rw [HLN.out]; exact hlt)
      rw [HND.out.2, Bool.false_or] at hqn
      by_cases hq3 : 3 < qst4 l k
      · have hres : idsM l = true := by
          unfold idsM
          rw [decide_eq_true hq3] at hqn
          have : l.any (fun c => decide (3 < c.q)) = true := by
            rw [List.any_eq_true] at hqn ⊢
            obtain ⟨x, hx, hx2⟩ := hqn
            exact ⟨x, List.mem_of_mem_take hx, hx2⟩
          rw [this, Bool.or_true]
        have HR := Lib.hid hres; clear hres hqn
        generalize qst4 l k = x at q3 hq3
        go_wp2_with fail
        go_ret
        exact ⟨ret_bool HR.out.symm, below_drewN hb m⟩
      rw [decide_eq_false hq3] at hqn
      have HQN := Lib.hid hqn; clear hqn
      obtain ⟨x, hx⟩ : ∃ x, qst4 l k = x := ⟨_, rfl⟩
      rw [hx] at q3 hq3
      have hx3 : (x : Int) ≤ 3 := by omega
      clear hx
      go_wp2_with fail
      clear q3
      go_loopw [4] (fun j wr => ∃ q : Nat, q ≤ k ∧ j = .int .i64 q ∧ fst4 l k ∉ (l.map (·.id)).take q ∧ ∃ m, wr = w1.drewN m) (fun j _ => k - (intOf j).toNat)
      case atStart => exact ⟨0, by omega, rfl, by simp, m, rfl⟩
      case round =>
        obtain ⟨q, hq, rfl, hmem, m, rfl⟩ := hrel
        have HMEM := Lib.hid hmem; clear hmem
        by_cases hqk : q < k
        · have d1 := (HC.out m q (by omega)).a
          have d2 := (HC.out m k hlt).a
          have c3m := c3 m
          obtain ⟨x, hx⟩ : ∃ x, fst4 l q = x := ⟨_, rfl⟩
          obtain ⟨y, hy⟩ : ∃ y, fst4 l k = y := ⟨_, rfl⟩
          rw [hx] at d1
          rw [hy] at d2
          have HX := Lib.hid (And.intro hx hy); clear hx hy
          have z1 : 0 ≤ (q : Int) := by omega
          have z2 : (q : Int) < (n : Int) := by omega
          have z3 : 0 ≤ (k : Int) := by omega
          have z4 : (k : Int) < (n : Int) := by omega
          go_upto_region 9 with fail
          refine Lex3.wp_region_lex [] (fun u => u.cell? ⟨a, 3, none⟩ = some (.slice (some ⟨b, o, none⟩) n cap) ∧ u.cell? ⟨b, o + q * 4, none⟩ = some (.int .u8 (x : Int)) ∧ u.cell? ⟨b, o + k * 4, none⟩ = some (.int .u8 (y : Int))) (fun u n h => h) ⟨c3m, d1, d2⟩ (by kernel_rfl) (by kernel_rfl) ?_
          refine Lex3.run_free (v := ?_) (by rfl) (by rfl) (fun u => ?_) ?_; rotate_left; (go_simp; try with_reducible rfl); simp only [Act.put, zA, zB, zC]
          refine Lex3.run_load (v := ?_) (by rfl) (by rfl) (fun u hu => ?_) ?_; rotate_left; (obtain ⟨hu0, hu1, hu2⟩ := hu; go_simp; try with_reducible rfl); simp only [Act.put, zA, zB, zC]
          iterate 3 (refine Lex3.run_free (v := ?_) (by rfl) (by rfl) (fun u => ?_) ?_; rotate_left; (go_simp; try with_reducible rfl); simp only [Act.put, zA, zB, zC])
          refine Lex3.run_load (v := ?_) (by rfl) (by rfl) (fun u hu => ?_) ?_; rotate_left; (obtain ⟨hu0, hu1, hu2⟩ := hu; go_simp; try with_reducible rfl); simp only [Act.put, zA, zB, zC]
          refine Lex3.run_free (v := ?_) (by rfl) (by rfl) (fun u => ?_) ?_; rotate_left; (go_simp; try with_reducible rfl); simp only [Act.put, zA, zB, zC]
          refine Lex3.run_load (v := ?_) (by rfl) (by rfl) (fun u hu => ?_) ?_; rotate_left; (obtain ⟨hu0, hu1, hu2⟩ := hu; go_simp; try with_reducible rfl); simp only [Act.put, zA, zB, zC]
          iterate 3 (refine Lex3.run_free (v := ?_) (by rfl) (by rfl) (fun u => ?_) ?_; rotate_left; (go_simp; try with_reducible rfl); simp only [Act.put, zA, zB, zC])
          refine Lex3.run_load (v := ?_) (by rfl) (by rfl) (fun u hu => ?_) ?_; rotate_left; (obtain ⟨hu0, hu1, hu2⟩ := hu; go_simp; try with_reducible rfl); simp only [Act.put, zA, zB, zC]
          refine Lex3.run_free (v := ?_) (by rfl) (by rfl) (fun u => ?_) ?_; rotate_left; (go_simp; try with_reducible rfl); simp only [Act.put, zA, zB, zC]
          refine Lex3.run_nil (fun n3 => ?_)
          have eG : ((w1.drewN m).drew.drewN n3) = w1.drewN (m + 1 + n3) := by simp
          rw [eG]
          clear eG
          generalize hG : m + 1 + n3 = M
          clear hG
          by_cases hxy : x = y
          · subst hxy
            go_wp2_with fail
            go_ret
            refine ⟨ret_bool ?_, below_drewN hb _⟩
            have := twice_not (v := l.map (·.id)) hqk (by rw [List.length_map, HLN.out]; exact hlt) (show (l.map (·.id)).getD q 0 = (l.map (·.id)).getD k 0 from HX.out.1.trans HX.out.2.symm)
            unfold idsM
            rw [decide_eq_true this, Bool.true_or]
          · have hb1 : ((x : Int) == (y : Int)) = false := beq_false_of_ne (by omega)
            have hb2 : (x == y) = false := beq_false_of_ne hxy
            go_wp2_with fail
            go_roundw
            case rel =>
              refine ⟨q + 1, by omega, by go_num, ?_, M, rfl⟩
              rw [mem_take_next (by rw [List.length_map, HLN.out]; omega)]
              rintro (h | h)
              · exact HMEM.out h
              · exact hxy (HX.out.1.symm.trans (h.symm.trans HX.out.2))
            case measure => simp [intOf]; omega
        · obtain rfl : q = k := by omega
          go_wp2_with fail
          go_roundw
          case rel => exact ⟨q + 1, by omega, by go_num, (take_nodup (by rw [List.length_map, HLN.out]; exact hlt)).2 ⟨HND.out.1, HMEM.out⟩, HQN.out, m, rfl⟩
          case measure => simp [intOf]; omega
    · obtain rfl : k = n := by omega
      go_wp2_with fail
      go_ret
      refine ⟨ret_bool ?_, below_drewN hb m⟩
      have h4 := HND.out
      rw [List.take_of_length_le (by rw [List.length_map, HLN.out]; exact Nat.le_refl _), List.take_of_length_le (by rw [HLN.out]; exact Nat.le_refl _)] at h4
      unfold idsM
      rw [h4.2, decide_eq_false (fun h => h h4.1)]
      rfl

theorem comp_lt {l : List CompM} (hb8 : ∀ c ∈ l, c.id < 256 ∧ c.h < 256 ∧ c.v < 256 ∧ c.q < 256) (k : Nat) : hst4 l k < 256 ∧ vst4 l k < 256 := by
  have g : ∀ f : CompM → Nat, (∀ c ∈ l, f c < 256) → (l.map f).getD k 0 < 256 := fun f hf => getD_lt (fun x hx => by
    rw [List.mem_map] at hx
    obtain ⟨c, hc, rfl⟩ := hx
    exact hf c hc) (by decide) k
  exact ⟨g _ fun c hc => (hb8 c hc).2.1, g _ fun c hc => (hb8 c hc).2.2.1⟩
theorem mTo_lt {v : List Nat} (h : ∀ k, v.getD k 0 < 256) : ∀ k, mTo v k < 256
  | 0 => by show 0 < 256; decide
  | k + 1 => by
    have h1 := mTo_lt h k
    have h2 := h k
    show Nat.max (mTo v k) (v.getD k 0) < 256
    exact Nat.max_lt.2 ⟨h1, h2⟩
set_option maxRecDepth 100000 in
set_option maxHeartbeats 8000000 in
theorem greatest_any (kind : Nat) (wd ht : Int) (l : List CompM) (A : Option Addr) (n cap : Nat) (w : World) (hc : Rows 4 w A n (l.flatMap compC)) (hn : n ≤ 1152921504606846976) (hb8 : ∀ c ∈ l, c.id < 256 ∧ c.h < 256 ∧ c.v < 256 ∧ c.q < 256) :
    Calls Tryz.prog 113 #[.agg #[.int .u8 (kind : Int), .int .i64 wd, .int .i64 ht, .slice A n cap]] w fun e w' => e = .returned (.tuple #[.int .i64 (mostM (·.h) l : Nat), .int .i64 (mostM (·.v) l : Nat)]) ∧ Below w.heap.size w w' := by
  obtain ⟨hln, hcell⟩ := comps_at hc
  have hu : Blk (w.alloc (.cells #[.int .u8 (kind : Int), .int .i64 wd, .int .i64 ht, .slice A n cap] 27)) w.heap.size 27 #[.int .u8 (kind : Int), .int .i64 wd, .int .i64 ht, .slice A n cap] := Blk.new w _ _
  have hb : Below w.heap.size w (w.alloc (.cells #[.int .u8 (kind : Int), .int .i64 wd, .int .i64 ht, .slice A n cap] 27)) := (Below.refl _ _).alloc (Nat.le_refl _) _
  have hcell1 : 0 < n → ∃ b o, A = some ⟨b, o, none⟩ ∧ ∀ m k, k < n → CellsC ((w.alloc (.cells #[.int .u8 (kind : Int), .int .i64 wd, .int .i64 ht, .slice A n cap] 27)).drewN m) b (o + k * 4) l k := fun h => by
    obtain ⟨b, o, hA, hk⟩ := hcell h
    exact ⟨b, o, hA, fun m k hkn => (hk k hkn).below (below_drewN hb m)⟩
  clear hcell
  have c3 : ∀ m, ((w.alloc (.cells #[.int .u8 (kind : Int), .int .i64 wd, .int .i64 ht, .slice A n cap] 27)).drewN m).cell? ⟨w.heap.size, 3, none⟩ = some (.slice A n cap) := fun m => by
    show World.cell? _ _ = _
    rw [(hu.drewN m).cell]; rfl
  have HLN := Lib.hid hln; clear hln
  go_enter Tryz.func113, Tryz.ntmps113
  go_upto_region 1 with fail
  generalize (w.alloc (.cells #[.int .u8 (kind : Int), .int .i64 wd, .int .i64 ht, .slice A n cap] 27)) = w1 at hu hb hcell1 c3 ⊢
  generalize w.heap.size = a at hu c3 ⊢
  clear hu
  go_wp2_with fail
  have c3' := c3 0
  rw [World.drewN_zero] at c3'
  clear c3
  go_loop [4, 5, 6] (fun h v i => ∃ k : Nat, k ≤ n ∧ i = .int .i64 k ∧ h = .int .i64 (mTo (l.map (·.h)) k : Nat) ∧ v = .int .i64 (mTo (l.map (·.v)) k : Nat)) (fun _ _ i => n - (intOf i).toNat)
  case atStart => exact ⟨0, by omega, rfl, rfl, rfl⟩
  case round =>
    obtain ⟨k, hk, rfl, rfl, rfl⟩ := hrel
    by_cases hlt : k < n
    · obtain ⟨b, o, rfl, hcell⟩ := hcell1 (by omega)
      have hh := (hcell 0 k hlt).h
      have hv := (hcell 0 k hlt).v
      rw [World.drewN_zero] at hh hv
      clear hcell hcell1
      have l1 := comp_lt hb8 k
      have l2 := mTo_lt (fun k => (comp_lt hb8 k).1) k
      have l3 := mTo_lt (fun k => (comp_lt hb8 k).2) k
      have n1 : mTo (l.map (·.h)) (k + 1) = Nat.max (mTo (l.map (·.h)) k) (hst4 l k) := rfl
      have n2 : mTo (l.map (·.v)) (k + 1) = Nat.max (mTo (l.map (·.v)) k) (vst4 l k) := rfl
      change mTo (l.map (·.h)) k < 256 at l2
      change mTo (l.map (·.v)) k < 256 at l3
      generalize mTo (l.map (·.h)) k = mh at l2 n1 ⊢
      generalize mTo (l.map (·.v)) k = mv at l3 n2 ⊢
      generalize hst4 l k = ch at hh l1 n1
      generalize vst4 l k = cv at hv l1 n2
      have HN := Lib.hid (And.intro n1 n2); clear n1 n2
      by_cases b1 : mh < ch
      all_goals by_cases b2 : mv < cv
      all_goals
        have b1' : (mh : Int) < ch ∨ (ch : Int) ≤ mh := by omega
        have b2' : (mv : Int) < cv ∨ (cv : Int) ≤ mv := by omega
        go_wp2_with fail
        go_round
        case rel => exact ⟨k + 1, by omega, by go_num, by rw [HN.out.1]; congr 2; first | exact (Nat.max_eq_right (by omega)).symm | exact (Nat.max_eq_left (by omega)).symm, by rw [HN.out.2]; congr 2; first | exact (Nat.max_eq_right (by omega)).symm | exact (Nat.max_eq_left (by omega)).symm⟩
        case measure => simp [intOf]; omega
    · obtain rfl : k = n := by omega
      go_wp2_with fail
      go_ret2
      unfold mostM
      rw [HLN.out]
      exact ⟨rfl, hb⟩

theorem any_fact {l : List CompM} {k : Nat} (h : k < l.length) : (l.take (k + 1)).any factM = ((l.take k).any factM || decide (hst4 l k < 1 ∨ 4 < hst4 l k ∨ vst4 l k < 1 ∨ 4 < vst4 l k)) := by
  rw [List.take_succ_eq_append_getElem h, List.any_append]
  unfold hst4 vst4 factM
  simp only [List.getD_eq_getElem?_getD, List.getElem?_map, List.getElem?_eq_getElem h]
  simp
theorem any_ratio {l : List CompM} {k : Nat} (H V : Nat) (h : k < l.length) : (l.take (k + 1)).any (ratioM H V) = ((l.take k).any (ratioM H V) || decide (H % hst4 l k ≠ 0 ∨ V % vst4 l k ≠ 0)) := by
  rw [List.take_succ_eq_append_getElem h, List.any_append]
  unfold hst4 vst4 ratioM
  simp only [List.getD_eq_getElem?_getD, List.getElem?_map, List.getElem?_eq_getElem h]
  simp
theorem any_of_take {α : Type} {l : List α} {p : α → Bool} {k : Nat} (h : (l.take k).any p = true) : l.any p = true := by
  rw [List.any_eq_true] at h ⊢
  obtain ⟨x, hx, hx2⟩ := h
  exact ⟨x, List.mem_of_mem_take hx, hx2⟩
theorem size4 : (Tryz.prog.info? 27).map (·.size) = some 4 := by kernel_rfl
set_option maxRecDepth 100000 in
set_option maxHeartbeats 16000000 in
theorem check14_any (kind : Nat) (wd ht : Int) (l : List CompM) (A : Option Addr) (n cap : Nat) (w : World) (hc : Rows 4 w A n (l.flatMap compC)) (hn : n ≤ 1152921504606846976) (hb8 : ∀ c ∈ l, c.id < 256 ∧ c.h < 256 ∧ c.v < 256 ∧ c.q < 256) :
    Calls Tryz.prog 111 #[.agg #[.int .u8 (kind : Int), .int .i64 wd, .int .i64 ht, .slice A n cap]] w fun e w' => e = .returned (.int .i64 (geomM wd ht l : Nat)) ∧ Below w.heap.size w w' := by
  have hln0 := (comps_at hc).1
  have hc0 := hc
  obtain ⟨hln, hcell⟩ := comps_at hc
  have hu : Blk (w.alloc (.cells #[.int .u8 (kind : Int), .int .i64 wd, .int .i64 ht, .slice A n cap] 27)) w.heap.size 27 #[.int .u8 (kind : Int), .int .i64 wd, .int .i64 ht, .slice A n cap] := Blk.new w _ _
  have hb : Below w.heap.size w (w.alloc (.cells #[.int .u8 (kind : Int), .int .i64 wd, .int .i64 ht, .slice A n cap] 27)) := (Below.refl _ _).alloc (Nat.le_refl _) _
  have hcell1 : 0 < n → ∃ b o, A = some ⟨b, o, none⟩ ∧ ∀ m k, k < n → CellsC ((w.alloc (.cells #[.int .u8 (kind : Int), .int .i64 wd, .int .i64 ht, .slice A n cap] 27)).drewN m) b (o + k * 4) l k := fun h => by
    obtain ⟨b, o, hA, hk⟩ := hcell h
    exact ⟨b, o, hA, fun m k hkn => (hk k hkn).below (below_drewN hb m)⟩
  clear hcell
  have c3 : ∀ m, ((w.alloc (.cells #[.int .u8 (kind : Int), .int .i64 wd, .int .i64 ht, .slice A n cap] 27)).drewN m).cell? ⟨w.heap.size, 3, none⟩ = some (.slice A n cap) := fun m => by
    show World.cell? _ _ = _
    rw [(hu.drewN m).cell]; rfl
  have HLN := Lib.hid hln; clear hln
  go_enter Tryz.func111, Tryz.ntmps111
  have b1 : w.heap.size ≤ w.heap.size := Nat.le_refl _
  have e1 : (w.alloc (.cells #[.int .u8 (kind : Int), .int .i64 wd, .int .i64 ht, .slice A n cap] 27)).cell? ⟨w.heap.size, 1, none⟩ = some (.int .i64 wd) := by rw [hu.cell]; rfl
  have e2 : (w.alloc (.cells #[.int .u8 (kind : Int), .int .i64 wd, .int .i64 ht, .slice A n cap] 27)).cell? ⟨w.heap.size, 2, none⟩ = some (.int .i64 ht) := by rw [hu.cell]; rfl
  have hc1 := hc0.below hb
  go_upto_region 1 with fail
  generalize (w.alloc (.cells #[.int .u8 (kind : Int), .int .i64 wd, .int .i64 ht, .slice A n cap] 27)) = w1 at hu hb hcell1 c3 e1 e2 hc1 ⊢
  generalize w.heap.size = a at hu c3 e1 e2 ⊢
  have hgeom : ∀ x, geomM wd ht l = x → Ending.returned (.int .i64 (x : Nat)) = Ending.returned (.int .i64 (geomM wd ht l : Nat)) := fun x hx => by rw [hx]
  have HG := Lib.hid hgeom; clear hgeom
  by_cases q1 : wd < 1
  · go_wp2_with fail
    go_ret
    exact ⟨HG.out 140 (by unfold geomM; rw [if_pos (.inl q1)]), hb⟩
  by_cases q2 : 65535 < wd
  · go_wp2_with fail
    go_ret
    exact ⟨HG.out 140 (by unfold geomM; rw [if_pos (.inr (.inl q2))]), hb⟩
  by_cases q3 : ht < 1
  · go_wp2_with fail
    go_ret
    exact ⟨HG.out 140 (by unfold geomM; rw [if_pos (.inr (.inr (.inl q3)))]), hb⟩
  by_cases q4 : 65535 < ht
  · go_wp2_with fail
    go_ret
    exact ⟨HG.out 140 (by unfold geomM; rw [if_pos (.inr (.inr (.inr q4)))]), hb⟩
  have hg1 : geomM wd ht l = (if l.length < 1 ∨ 4 < l.length then 143 else if idsM l then 143 else if l.any factM then 141 else if l.any (ratioM (mostM (·.h) l) (mostM (·.v) l)) then 142 else 0) := by
    unfold geomM
    rw [if_neg (by omega)]
  rw [HLN.out] at hg1
  have HG1 := Lib.hid hg1; clear hg1
  have hs4 : (Tryz.prog.info? 27).map (·.size) = some (#[.int .u8 (kind : Int), .int .i64 wd, .int .i64 ht, .slice A n cap] : Array Value).size := size4
  have HS4 := Lib.hid hs4; clear hs4
  go_wp2_with (refine wpList_load_row rfl _ _ rfl a rfl _ _ _ _ hu Tryz.underlying27 rfl HS4.out ?_)
  refine (ids_any kind wd ht l A n cap w1 hc1 hn).mono ?_
  rintro e w2 ⟨rfl, hb2⟩
  have hu2 := hu.kept hb2
  have hb' := below_then hb hb2
  have hc2 := hc1.below hb2
  have c32 : w2.cell? ⟨a, 3, none⟩ = some (.slice A n cap) := by rw [hu2.cell]; rfl
  clear e1 e2 hc1 hu c3 hcell1 hb hb2
  clear w1
  by_cases q5 : n = 0
  · subst q5
    go_wp2_with fail
    go_ret
    exact ⟨HG.out 143 (by rw [HG1.out, if_pos (.inl (by omega))]), hb'⟩
  have q5b : ((n : Int) == 0) = false := beq_false_of_ne (by omega)
  by_cases q6 : 4 < n
  · go_wp2_with fail
    go_ret
    exact ⟨HG.out 143 (by rw [HG1.out, if_pos (.inr q6)]), hb'⟩
  have q6b : decide (4 < (n : Int)) = false := decide_eq_false (by omega)
  cases hids : idsM l
  · have hg2 := HG1.out
    rw [if_neg (by omega), hids, if_neg (by simp)] at hg2
    have HG2 := Lib.hid hg2; clear hg2 hids
    clear HG1
    go_wp2_with (refine wpList_load_row rfl _ _ rfl a rfl _ _ _ _ hu2 Tryz.underlying27 rfl HS4.out ?_)
    refine (greatest_any kind wd ht l A n cap w2 hc2 hn hb8).mono ?_
    rintro e w3 ⟨rfl, hb3⟩
    have hu3 := hu2.kept hb3
    have hb'' := below_then hb' hb3
    obtain ⟨hln3, hcell3⟩ := comps_at (hc2.below hb3)
    have c33 : w3.cell? ⟨a, 3, none⟩ = some (.slice A n cap) := by rw [hu3.cell]; rfl
    clear hu2 hu3 hc2 hc0 hb3 hb' c32
    clear w2
    obtain ⟨H, hH⟩ : ∃ H, mostM (·.h) l = H := ⟨_, rfl⟩
    obtain ⟨V, hV⟩ : ∃ V, mostM (·.v) l = V := ⟨_, rfl⟩
    have hHb : H < 256 := by rw [← hH]; exact mTo_lt (fun k => (comp_lt hb8 k).1) _
    have hVb : V < 256 := by rw [← hV]; exact mTo_lt (fun k => (comp_lt hb8 k).2) _
    have hg2 := HG2.out
    rw [hH, hV] at hg2 ⊢
    clear HG2 hH hV
    have HG2 := Lib.hid hg2; clear hg2
    go_wp2_with fail
    go_loop [6, 7] (fun t i => ∃ k : Nat, k ≤ n ∧ i = .int .i64 k ∧ t = .bool ((l.take k).any (ratioM H V)) ∧ (l.take k).any factM = false) (fun _ i => n - (intOf i).toNat)
    case atStart => exact ⟨0, by omega, rfl, rfl, rfl⟩
    case round =>
      obtain ⟨k, hk, rfl, rfl, hfa⟩ := hrel
      by_cases hlt : k < n
      · obtain ⟨b, o, rfl, hcell⟩ := hcell3 (by omega)
        have hh := (hcell k hlt).h
        have hv := (hcell k hlt).v
        clear hcell hcell3
        have n1 := any_fact (l := l) (k := k) (by rw [HLN.out]; exact hlt)
        have n2 := any_ratio H V (l := l) (k := k) (by rw [HLN.out]; exact hlt)
        rw [hfa, Bool.false_or] at n1
        have l1 := comp_lt hb8 k
        generalize (l.take k).any (ratioM H V) = r at n2 ⊢
        generalize hst4 l k = x at hh n1 n2 l1
        generalize vst4 l k = y at hv n1 n2 l1
        have HN := Lib.hid (And.intro n1 n2); clear n1 n2 hfa
        have yx : IntKind.i64.wrap (x : Int) = (x : Int) := IntWalk.i64_in _ (by omega)
        by_cases f1 : x < 1 ∨ 4 < x ∨ y < 1 ∨ 4 < y
        · have hres : geomM wd ht l = 141 := by
            have := HN.out.1
            rw [decide_eq_true f1] at this
            rw [HG2.out, any_of_take this, if_pos rfl]
          have HR := Lib.hid hres; clear hres
          by_cases g1 : x < 1
          · go_wp2_with fail
            go_ret
            exact ⟨HG.out 141 HR.out, hb''⟩
          by_cases g2 : 4 < x
          · go_wp2_with fail
            go_ret
            exact ⟨HG.out 141 HR.out, hb''⟩
          by_cases g3 : y < 1
          · go_wp2_with fail
            go_ret
            exact ⟨HG.out 141 HR.out, hb''⟩
          have g4 : 4 < y := by omega
          go_wp2_with fail
          go_ret
          exact ⟨HG.out 141 HR.out, hb''⟩
        · have x1 : 1 ≤ x := by omega
          have x2 : x ≤ 4 := by omega
          have y1 : 1 ≤ y := by omega
          have y2 : y ≤ 4 := by omega
          have hN1 := HN.out.1
          rw [decide_eq_false f1] at hN1
          have hN2 := HN.out.2
          clear f1 HN
          obtain ⟨p, hp⟩ : ∃ p, H % x = p := ⟨_, rfl⟩
          obtain ⟨q, hq⟩ : ∃ q, V % y = q := ⟨_, rfl⟩
          have hp1 : (H : Int) % (x : Int) = (p : Int) := by rw [← hp]; rfl
          have hq1 : (V : Int) % (y : Int) = (q : Int) := by rw [← hq]; rfl
          have hp2 : (H : Int).tmod (x : Int) = (p : Int) := by rw [← hp]; rfl
          have hq2 : (V : Int).tmod (y : Int) = (q : Int) := by rw [← hq]; rfl
          have hp3 : p < 4 := by have := Nat.mod_lt H x1; omega
          have hq3 : q < 4 := by have := Nat.mod_lt V y1; omega
          have nx : ¬ (x : Int) = 0 := by omega
          have ny : ¬ (y : Int) = 0 := by omega
          have yp : IntKind.i64.wrap (p : Int) = (p : Int) := IntWalk.i64_in _ (by omega)
          have yq : IntKind.i64.wrap (q : Int) = (q : Int) := IntWalk.i64_in _ (by omega)
          rw [hp, hq] at hN2
          clear hp hq
          have HN := Lib.hid (And.intro hN1 hN2); clear hN1 hN2
          have nx' : ¬ x = 0 := by omega
          have ny' : ¬ y = 0 := by omega
          cases r
          all_goals by_cases p0 : p = 0
          all_goals by_cases q0 : q = 0
          all_goals try subst p0
          all_goals try subst q0
          all_goals
            first
              | have p1 : ((p : Int) != 0) = true := by simp; omega
              | have p1 : True := trivial
            first
              | have q1 : ((q : Int) != 0) = true := by simp; omega
              | have q1 : True := trivial
            go_wp2_with fail
            go_round
            case rel => exact ⟨k + 1, by omega, by go_num, by rw [HN.out.2]; simp [*], HN.out.1⟩
            case measure => simp [intOf]; omega
      · obtain rfl : k = n := by omega
        rw [List.take_of_length_le (by rw [HLN.out]; exact Nat.le_refl _)] at hfa ⊢
        have hg3 := HG2.out
        rw [hfa, if_neg (by simp)] at hg3
        have HG3 := Lib.hid hg3; clear hg3 hfa
        cases hr : l.any (ratioM H V)
        · go_wp2_with fail
          go_ret
          exact ⟨HG.out 0 (by rw [HG3.out, hr]; rfl), hb''⟩
        · go_wp2_with fail
          go_ret
          exact ⟨HG.out 142 (by rw [HG3.out, hr]; rfl), hb''⟩
  · have HI := Lib.hid hids
    go_wp2_with fail
    go_ret
    exact ⟨HG.out 143 (by rw [HG1.out, if_neg (by omega), HI.out]; rfl), hb'⟩
end Go.Proofs.YtjfgfoeenajneaaGreatDoor.Sg
namespace Go.Proofs.YtjfgfoeenajneaaGreatDoor.Sg
open Go.RowKit

theorem results_cell_tmp {P : Program} {fn : Func} {p q : Tmp} {ty : TypeId} (h : fn.results = #[.cell p ty, .tmp q]) (tmps : Array Value) (w : World) (g : Nat) (t : TypeId) (cs : Array Value) (fr : Nat × Nat) (d : TypeDesc) (v : Value)
    (hp : tmps.getD p undef = .pointer (some ⟨g, 0, none⟩)) (hq : tmps.getD q undef = v) (hg : w.heap[g]? = some (.cells cs t fr))
    (hu : P.underlying ty = some d) (hd : (match d with | .struct _ | .array _ _ => true | _ => false) = true) (hi : (P.info? ty).map (·.size) = some cs.size) :
    (results fn tmps).run P w = .ok (.tuple #[.agg cs, v]) w := by
  have hp' : tmps[p]?.getD undef = .pointer (some ⟨g, 0, none⟩) := by simpa using hp
  have hq' : tmps[q]?.getD undef = v := by simpa using hq
  simp [results, h, hp', hq', asAddr, run_loadVar_row w g t ty cs fr d hg hu hd hi]
theorem results_cells {P : Program} {fn : Func} {p q : Tmp} {ty ty' : TypeId} (h : fn.results = #[.cell p ty, .cell q ty']) (tmps : Array Value) (w : World) (g g' : Nat) (t t' : TypeId) (cs cs' : Array Value) (fr fr' : Nat × Nat) (d d' : TypeDesc)
    (hp : tmps.getD p undef = .pointer (some ⟨g, 0, none⟩)) (hq : tmps.getD q undef = .pointer (some ⟨g', 0, none⟩)) (hg : w.heap[g]? = some (.cells cs t fr)) (hg' : w.heap[g']? = some (.cells cs' t' fr'))
    (hu : P.underlying ty = some d) (hd : (match d with | .struct _ | .array _ _ => true | _ => false) = true) (hi : (P.info? ty).map (·.size) = some cs.size)
    (hu' : P.underlying ty' = some d') (hd' : (match d' with | .struct _ | .array _ _ => true | _ => false) = true) (hi' : (P.info? ty').map (·.size) = some cs'.size) :
    (results fn tmps).run P w = .ok (.tuple #[.agg cs, .agg cs']) w := by
  have hp' : tmps[p]?.getD undef = .pointer (some ⟨g, 0, none⟩) := by simpa using hp
  have hq' : tmps[q]?.getD undef = .pointer (some ⟨g', 0, none⟩) := by simpa using hq
  simp [results, h, hp', hq', asAddr, run_loadVar_row w g t ty cs fr d hg hu hd hi, run_loadVar_row w g' t' ty' cs' fr' d' hg' hu' hd' hi']

set_option maxRecDepth 100000 in
set_option maxHeartbeats 4000000 in
theorem framed15_any (kind : Nat) (wd ht : Int) (l : List CompM) (A : Option Addr) (n cap : Nat) (w : World) (hc : Rows 4 w A n (l.flatMap compC)) (hn : n ≤ 1152921504606846976) (hb8 : ∀ c ∈ l, c.id < 256 ∧ c.h < 256 ∧ c.v < 256 ∧ c.q < 256) :
    Calls Tryz.prog 99 #[.agg #[.int .u8 (kind : Int), .int .i64 wd, .int .i64 ht, .slice A n cap]] w fun e w' => e = .returned (.int .i64 (framedM wd ht l : Nat)) ∧ Below w.heap.size w w' := by
  have hu : Blk (w.alloc (.cells #[.int .u8 (kind : Int), .int .i64 wd, .int .i64 ht, .slice A n cap] 27)) w.heap.size 27 #[.int .u8 (kind : Int), .int .i64 wd, .int .i64 ht, .slice A n cap] := Blk.new w _ _
  have hb : Below w.heap.size w (w.alloc (.cells #[.int .u8 (kind : Int), .int .i64 wd, .int .i64 ht, .slice A n cap] 27)) := (Below.refl _ _).alloc (Nat.le_refl _) _
  have e2 : (w.alloc (.cells #[.int .u8 (kind : Int), .int .i64 wd, .int .i64 ht, .slice A n cap] 27)).cell? ⟨w.heap.size, 2, none⟩ = some (.int .i64 ht) := by rw [hu.cell]; rfl
  have hc1 := hc.below hb
  have hs4 : (Tryz.prog.info? 27).map (·.size) = some (#[.int .u8 (kind : Int), .int .i64 wd, .int .i64 ht, .slice A n cap] : Array Value).size := size4
  have HS4 := Lib.hid hs4; clear hs4
  have hfr : ∀ x, framedM wd ht l = x → Ending.returned (.int .i64 (x : Nat)) = Ending.returned (.int .i64 (framedM wd ht l : Nat)) := fun x hx => by rw [hx]
  have HF := Lib.hid hfr; clear hfr
  go_enter Tryz.func99, Tryz.ntmps99
  go_upto_region 1 with fail
  generalize (w.alloc (.cells #[.int .u8 (kind : Int), .int .i64 wd, .int .i64 ht, .slice A n cap] 27)) = w1 at hu hb e2 hc1 ⊢
  generalize w.heap.size = a at hu e2 ⊢
  by_cases h0 : ht = 0
  · have hr : framedM wd ht l = 159 := by unfold framedM; rw [if_pos h0]
    have HR := Lib.hid hr
    subst h0
    clear hr
    go_wp2_with fail
    go_ret
    exact ⟨HF.out 159 HR.out, hb⟩
  have hr : framedM wd ht l = (if geomM wd ht l = 0 then 0 else if geomM wd ht l = 142 then 142 else 154) := by unfold framedM; rw [if_neg h0]
  have HR := Lib.hid hr; clear hr
  have h0b : (ht == 0) = false := beq_false_of_ne h0
  go_wp2_with (refine wpList_load_row rfl _ _ rfl a rfl _ _ _ _ hu Tryz.underlying27 rfl HS4.out ?_)
  refine (check14_any kind wd ht l A n cap w1 hc1 hn hb8).mono ?_
  rintro e w2 ⟨rfl, hb2⟩
  have hb' := below_then hb hb2
  have hr := HR.out
  generalize geomM wd ht l = g at hr ⊢
  by_cases g0 : g = 0
  · subst g0
    have HR2 := Lib.hid hr; clear hr
    rw [show ((0 : Nat) : Int) = 0 from rfl]
    go_wp2_with fail
    go_ret
    exact ⟨HF.out 0 (by rw [HR2.out]; rfl), hb'⟩
  have g0b : ((g : Int) == 0) = false := beq_false_of_ne (by omega)
  by_cases g1 : g = 142
  · subst g1
    have HR2 := Lib.hid hr; clear hr
    rw [show ((142 : Nat) : Int) = 142 from rfl]
    go_wp2_with fail
    go_ret
    exact ⟨HF.out 142 (by rw [HR2.out]; rfl), hb'⟩
  have g1b : ((g : Int) == 142) = false := beq_false_of_ne (by omega)
  rw [if_neg g0, if_neg g1] at hr
  have HR2 := Lib.hid hr; clear hr
  go_wp2_with fail
  go_ret
  exact ⟨HF.out 154 HR2.out, hb'⟩
end Go.Proofs.YtjfgfoeenajneaaGreatDoor.Sg
