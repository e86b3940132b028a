/- As Lex, with facts I that hold all along: what only reads yields the same in every world in which I holds, and may change places with whatever keeps I. -/
import Derived.Test.YtlbocfinjlkebaaLex
namespace Go.Proofs.Ytlbocfinjlkebaa.Lex3
open Go Go.Proofs.Ytlbocfinjlkebaa.Lex

/-- 0: yields its value in whatever world · 1: calls a function that only reads · 2: anything · 4: loads -/
def cls (qs : List FuncId) (o : Oper) : Nat := match o.op with
  | .move _ | .assign _ | .pick .. | .nilCheck _ | .binOp .. | .unOp .. | .convert .. | .fieldAddr .. | .indexAddr .. | .slice .. | .extract .. | .field .. | .index .. | .build .. => 0
  | .load .. => 4
  | .call c => match c.callee with
    | .builtin .len | .builtin .cap | .builtin .min | .builtin .max => 0
    | .value (.func f) => if qs.contains f then 1 else 2
    | _ => 2
  | _ => 2

section
variable {P : Program} {ops : Array Oper} {qs : List FuncId} {md : Region.Mode} {I : World → Prop}

/-- one operation, by its class -/
def LStep (P : Program) (ops : Array Oper) (qs : List FuncId) (I : World → Prop) (o : Oper) (K : Act → World → Prop) (a : Act) (w : World) : Prop :=
  if Region.wanted o (yielded ops a.tmps) = true then
    (if cls qs o = 0 then ∃ v, (∀ u, (execOp a.eval o).run P u = .ok (.value v) u) ∧ K (a.put o.dst v) w
     else if cls qs o = 1 then o.quiet P a (CW w) (fun a' => K a' w)
     else if cls qs o = 4 then ∃ v, (∀ u, I u → (execOp a.eval o).run P u = .ok (.value v) u) ∧ K (a.put o.dst v) w
     else ∀ n, o.wp P a (w.drewN n) (fun a' w' => I w' ∧ K a' w') F)
  else K (a.put o.dst undef) w

theorem LStep.mono {o : Oper} {K K' : Act → World → Prop} {a : Act} {w : World} (h : ∀ a w, K a w → K' a w) (hh : LStep P ops qs I o K a w) : LStep P ops qs I o K' a w := by
  unfold LStep at *
  split
  · rename_i hw
    rw [if_pos hw] at hh
    split
    · rename_i hc
      rw [if_pos hc] at hh
      obtain ⟨v, h1, h2⟩ := hh
      exact ⟨v, h1, h _ _ h2⟩
    · rename_i hc
      rw [if_neg hc] at hh
      split
      · rename_i hc1
        rw [if_pos hc1] at hh
        exact Oper.quiet_mono (fun a' => h a' w) hh
      · rename_i hc1
        rw [if_neg hc1] at hh
        split
        · rename_i hc4
          rw [if_pos hc4] at hh
          obtain ⟨v, h1, h2⟩ := hh
          exact ⟨v, h1, h _ _ h2⟩
        · rename_i hc4
          rw [if_neg hc4] at hh
          exact fun n => Oper.wp_mono (fun a' w' hk => ⟨hk.1, h _ _ hk.2⟩) (hh n)
  · rename_i hw
    rw [if_neg hw] at hh
    exact h _ _ hh

/-- may two operations change places? (x stands ahead of y in the text) -/
def commB (ops : Array Oper) (qs : List FuncId) (x y : Oper) : Bool := x.apart ops y && (cls qs x == 0 || cls qs x == 4 || cls qs y == 0 || cls qs y == 4 || (cls qs x == 1 && cls qs y == 1))

/-- THE EXCHANGE. -/
theorem exchange {k j : Oper} (hc : commB ops qs k j = true) (hk : ∀ cs b, k.op ≠ .select cs b) (hj : ∀ cs b, j.op ≠ .select cs b) {K : Act → World → Prop} {a : Act} {w : World}
    (H : LStep P ops qs I k (LStep P ops qs I j K) a w) : LStep P ops qs I j (LStep P ops qs I k K) a w := by
  simp only [commB, Bool.and_eq_true, Bool.or_eq_true, beq_iff_eq] at hc
  obtain ⟨hap, hcls⟩ := hc
  obtain ⟨h1, h2, h3⟩ := Oper.apart_spec hap
  have h2' : ∀ d, j.dst = some d → k.dst ≠ some d := fun d hd e => h2 d e hd
  have pc : ∀ (a : Act) (v u : Value), (a.put k.dst v).put j.dst u = (a.put j.dst u).put k.dst v := fun a v u => Act.put_comm a v u h2
  have sj : ∀ (a : Act) (v : Value), Same ops j a (a.put k.dst v) := fun a v => Same.put hj h1 a v
  have sk : ∀ (a : Act) (u : Value), Same ops k a (a.put j.dst u) := fun a u => Same.put hk h3 a u
  -- k is passed over, or yields one value in the worlds that matter
  have simpleK : ∀ (v : Value), LStep P ops qs I j K (a.put k.dst v) w → (∀ (a' : Act) (w' : World), Same ops k a a' → (Region.wanted k (yielded ops a.tmps) = true → cls qs k = 1 → w' = w) → K (a'.put k.dst v) w' → LStep P ops qs I k K a' w') → LStep P ops qs I j (LStep P ops qs I k K) a w := by
    intro v H hback
    unfold LStep at H ⊢
    rw [(sj a v).2] at H
    split
    · rename_i hw
      rw [if_pos hw] at H
      split
      · rename_i hc0
        rw [if_pos hc0] at H
        obtain ⟨u, hu, hK⟩ := H
        refine ⟨u, fun x => by rw [← (sj a v).1]; exact hu x, ?_⟩
        exact hback _ _ (sk a u) (fun _ _ => rfl) (by rw [← pc]; exact hK)
      · rename_i hc0
        rw [if_neg hc0] at H
        split
        · rename_i hc1
          rw [if_pos hc1] at H
          obtain ⟨u, hu, hK⟩ := H
          refine ⟨u, fun x hx => quiet_same (sj a v).1.symm (hu x hx), ?_⟩
          exact hback _ _ (sk a u) (fun _ _ => rfl) (by rw [← pc]; exact hK)
        · rename_i hc1
          rw [if_neg hc1] at H
          split
          · rename_i hc4
            rw [if_pos hc4] at H
            obtain ⟨u, hu, hK⟩ := H
            refine ⟨u, fun x hx => by rw [← (sj a v).1]; exact hu x hx, ?_⟩
            exact hback _ _ (sk a u) (fun _ _ => rfl) (by rw [← pc]; exact hK)
          · rename_i hc4
            rw [if_neg hc4] at H
            intro n
            refine Oper.wp_mono ?_ (wp_same (ops := ops) hk h3 (wp_put_out (ops := ops) hj h1 h2 (H n)))
            rintro a1 w1 ⟨hs, hi, hK⟩
            exact ⟨hi, hback a1 w1 hs (fun _ h => by exfalso; rcases hcls with (((h' | h') | h') | h') | ⟨_, h'⟩ <;> first | omega | exact hc0 h' | exact hc1 h' | exact hc4 h') hK⟩
    · rename_i hw
      rw [if_neg hw] at H
      exact hback _ _ (sk a undef) (fun _ _ => rfl) (by rw [← pc]; exact H)
  by_cases hw : Region.wanted k (yielded ops a.tmps) = true
  · by_cases hk0 : cls qs k = 0
    · unfold LStep at H
      rw [if_pos hw, if_pos hk0] at H
      obtain ⟨v, hv, HJ⟩ := H
      refine simpleK v HJ ?_
      intro a' w' hs _ hK
      unfold LStep
      rw [hs.2, if_pos hw, if_pos hk0]
      exact ⟨v, fun u => by rw [hs.1]; exact hv u, hK⟩
    · by_cases hk1 : cls qs k = 1
      · unfold LStep at H
        rw [if_pos hw, if_neg hk0, if_pos hk1] at H
        obtain ⟨v, hv, HJ⟩ := H
        refine simpleK v HJ ?_
        intro a' w' hs he hK
        obtain rfl := he hw hk1
        unfold LStep
        rw [hs.2, if_pos hw, if_neg hk0, if_pos hk1]
        exact ⟨v, fun u hu => quiet_same hs.1 (hv u hu), hK⟩
      · by_cases hk4 : cls qs k = 4
        · unfold LStep at H
          rw [if_pos hw, if_neg hk0, if_neg hk1, if_pos hk4] at H
          obtain ⟨v, hv, HJ⟩ := H
          refine simpleK v HJ ?_
          intro a' w' hs _ hK
          unfold LStep
          rw [hs.2, if_pos hw, if_neg hk0, if_neg hk1, if_pos hk4]
          exact ⟨v, fun u hu => by rw [hs.1]; exact hv u hu, hK⟩
        · -- k is an effect: j yields one value
          unfold LStep at H
          rw [if_pos hw, if_neg hk0, if_neg hk1, if_neg hk4] at H
          have HS := fun n => wp_same (ops := ops) hj h1 (H n)
          obtain ⟨a1, w1, hs1, hi1, hK1⟩ := wp_some (HS 0)
          unfold LStep
          by_cases hwj : Region.wanted j (yielded ops a.tmps) = true
          · rw [if_pos hwj]
            rw [hs1.2, if_pos hwj] at hK1
            by_cases hj0 : cls qs j = 0
            · rw [if_pos hj0] at hK1 ⊢
              obtain ⟨u, hu, _⟩ := hK1
              refine ⟨u, fun x => by rw [← hs1.1]; exact hu x, ?_⟩
              rw [(sk a u).2, if_pos hw, if_neg hk0, if_neg hk1, if_neg hk4]
              intro n
              refine wp_put_in (ops := ops) hk h3 h2' (Oper.wp_mono ?_ (HS n))
              rintro a2 w2 ⟨hs2, hi2, hK2⟩
              rw [hs2.2, if_pos hwj, if_pos hj0] at hK2
              obtain ⟨u', hu', hK2⟩ := hK2
              have e1 := hu' w
              have e2 := hu w
              rw [hs2.1] at e1
              rw [hs1.1, e1] at e2
              injection e2 with e2
              injection e2 with e2
              rw [← e2]
              exact ⟨hi2, hK2⟩
            · have hj4 : cls qs j = 4 := by omega
              have hj1 : ¬ cls qs j = 1 := by omega
              rw [if_neg hj0, if_neg hj1, if_pos hj4] at hK1 ⊢
              obtain ⟨u, hu, _⟩ := hK1
              refine ⟨u, fun x hx => by rw [← hs1.1]; exact hu x hx, ?_⟩
              rw [(sk a u).2, if_pos hw, if_neg hk0, if_neg hk1, if_neg hk4]
              intro n
              refine wp_put_in (ops := ops) hk h3 h2' (Oper.wp_mono ?_ (HS n))
              rintro a2 w2 ⟨hs2, hi2, hK2⟩
              rw [hs2.2, if_pos hwj, if_neg hj0, if_neg hj1, if_pos hj4] at hK2
              obtain ⟨u', hu', hK2⟩ := hK2
              have e1 := hu' w1 hi1
              have e2 := hu w1 hi1
              rw [hs2.1] at e1
              rw [hs1.1, e1] at e2
              injection e2 with e2
              injection e2 with e2
              rw [← e2]
              exact ⟨hi2, hK2⟩
          · rw [if_neg hwj]
            rw [(sk a undef).2, if_pos hw, if_neg hk0, if_neg hk1, if_neg hk4]
            intro n
            refine wp_put_in (ops := ops) hk h3 h2' (Oper.wp_mono ?_ (HS n))
            rintro a2 w2 ⟨hs2, hi2, hK2⟩
            rw [hs2.2, if_neg hwj] at hK2
            exact ⟨hi2, hK2⟩
  · unfold LStep at H
    rw [if_neg hw] at H
    refine simpleK undef H ?_
    intro a' w' hs _ hK
    unfold LStep
    rw [hs.2, if_neg hw]
    exact hK

/-- operation number i -/
def LOp (P : Program) (ops : Array Oper) (qs : List FuncId) (I : World → Prop) (i : Nat) (K : Act → World → Prop) (a : Act) (w : World) : Prop := match ops[i]? with
  | none => K a w
  | some o => LStep P ops qs I o K a w
theorem LOp.mono {i : Nat} {K K' : Act → World → Prop} {a : Act} {w : World} (h : ∀ a w, K a w → K' a w) (hh : LOp P ops qs I i K a w) : LOp P ops qs I i K' a w := by
  unfold LOp at *
  split
  · rename_i ho
    rw [ho] at hh
    exact h _ _ hh
  · rename_i o ho
    rw [ho] at hh
    exact LStep.mono h hh

/-- whatever order is picked from here on -/
def LAny (P : Program) (md : Region.Mode) (ops : Array Oper) (qs : List FuncId) (I : World → Prop) (K : Act → World → Prop) : Nat → Array Bool → Act → World → Prop
  | 0, listed, a, w => Region.ready md ops listed = [] ∧ K a w
  | f + 1, listed, a, w => (Region.ready md ops listed = [] → K a w) ∧ ∀ i ∈ Region.ready md ops listed, LOp P ops qs I i (LAny P md ops qs I K f (listed.setIfInBounds i true)) a w

/-- number k may be taken first, if whatever else might come up ahead of it may change places with it -/
theorem first {K : Act → World → Prop} {k : Nat} {ok : Oper} (hk : ops[k]? = some ok) (hsel : ∀ (j : Nat) (o : Oper) cs b, ops[j]? = some o → o.op ≠ .select cs b)
    (hcomm : ∀ (j : Nat) (oj : Oper), ops[j]? = some oj → k < j → ¬ Waits md ops j k → commB ops qs ok oj = true) :
    ∀ (fuel : Nat) (listed : Array Bool) (a : Act) (w : World), Closed md ops listed → (∀ i, i < k → listed.getD i false = true) → k ∈ Region.ready md ops listed →
      LOp P ops qs I k (LAny P md ops qs I K fuel (listed.setIfInBounds k true)) a w → LAny P md ops qs I K (fuel + 1) listed a w := by
  intro fuel
  induction fuel with
  | zero =>
    intro listed a w hcl hlow hr H
    refine ⟨fun h => (by rw [h] at hr; cases hr), fun j hj => ?_⟩
    by_cases hjk : j = k
    · subst hjk; exact H
    · exfalso
      have hj' := ready_mono hj hjk
      -- behind k nothing is ready any more
      have hno : ∀ {o : Oper} {a : Act} {w : World}, LStep P ops qs I o (LAny P md ops qs I K 0 (listed.setIfInBounds k true)) a w → Region.ready md ops (listed.setIfInBounds k true) = [] := by
        intro o a w h
        unfold LStep at h
        split at h
        · split at h
          · obtain ⟨_, _, h⟩ := h; exact h.1
          · split at h
            · obtain ⟨_, _, h⟩ := h; exact h.1
            · split at h
              · obtain ⟨_, _, h⟩ := h; exact h.1
              · obtain ⟨_, _, _, h⟩ := wp_some (h 0); exact h.1
        · exact h.1
      have hn : Region.ready md ops (listed.setIfInBounds k true) = [] := by
        unfold LOp at H
        rw [hk] at H
        exact hno H
      rw [hn] at hj'
      cases hj'
  | succ fuel ih =>
    intro listed a w hcl hlow hr H
    refine ⟨fun h => (by rw [h] at hr; cases hr), fun j hj => ?_⟩
    by_cases hjk : j = k
    · subst hjk; exact H
    · obtain ⟨hjun, oj, hoj, _⟩ := mem_ready.1 hj
      have hkj : k < j := by
        rcases Nat.lt_or_ge k j with h | h
        · exact h
        · have h1 := hlow j (by omega)
          rw [listed_both hjun] at h1
          cases h1
      have hc := hcomm j oj hoj hkj (hcl.ready hj hr)
      have H2 : LStep P ops qs I ok (LStep P ops qs I oj (LAny P md ops qs I K fuel ((listed.setIfInBounds k true).setIfInBounds j true))) a w := by
        unfold LOp at H
        rw [hk] at H
        refine LStep.mono (fun a' w' h => ?_) H
        have := h.2 j (ready_mono hj hjk)
        unfold LOp at this
        rw [hoj] at this
        exact this
      have H3 := exchange hc (fun cs b => hsel k ok cs b hk) (fun cs b => hsel j oj cs b hoj) H2
      unfold LOp
      rw [hoj]
      refine LStep.mono (fun a' w' h => ?_) H3
      refine ih (listed.setIfInBounds j true) a' w' (hcl.set hj) (fun i hi => getD_set_true (hlow i hi)) (ready_mono hr (Ne.symm hjk)) ?_
      rw [Array.setIfInBounds_comm _ _ hjk]
      unfold LOp
      rw [hk]
      exact h

/-- THE WALK: the operations in the order of the text -/
def Run (P : Program) (ops : Array Oper) (qs : List FuncId) (I : World → Prop) (K : Act → World → Prop) : List Oper → Act → World → Prop
  | [], a, w => ∀ n, K a (w.drewN n)
  | o :: rest, a, w => LStep P ops qs I o (Run P ops qs I K rest) a w

/-- the closed look at a region -/
def okB (md : Region.Mode) (ops : Array Oper) (qs : List FuncId) : Bool :=
  Region.noSelect ops && (List.range ops.size).all fun k => match ops[k]? with
    | none => false
    | some ok => (ok.after.all fun e => !Region.binds md e || Nat.blt e.on k) && (List.range ops.size).all fun j => Nat.ble j k || match ops[j]? with
      | none => false
      | some oj => commB ops qs ok oj || waitsB md ops ops.size j k

theorem okB_spec (h : okB md ops qs = true) {k : Nat} {ok : Oper} (hk : ops[k]? = some ok) :
    (∀ e ∈ ok.after, Region.binds md e = true → e.on < k) ∧ ∀ (j : Nat) (oj : Oper), ops[j]? = some oj → k < j → ¬ Waits md ops j k → commB ops qs ok oj = true := by
  simp only [okB, Bool.and_eq_true, List.all_eq_true, List.mem_range] at h
  have hkl : k < ops.size := (Array.getElem?_eq_some_iff.1 hk).1
  have h1 := h.2 k hkl
  rw [hk] at h1
  simp only [Bool.and_eq_true, List.all_eq_true, List.mem_range] at h1
  refine ⟨fun e he hb => ?_, fun j oj hj hkj hw => ?_⟩
  · have h2 := Array.all_eq_true_iff_forall_mem.1 h1.1 e he
    simp only [hb, Bool.not_true, Bool.false_or] at h2
    exact Nat.blt_eq.mp h2
  · have h2 := h1.2 j (Array.getElem?_eq_some_iff.1 hj).1
    rw [hj] at h2
    simp only [Bool.or_eq_true] at h2
    rcases h2 with h2 | h2 | h2
    · have := Nat.ble_eq.mp h2; omega
    · exact h2
    · exact absurd (waits_of h2) hw
theorem closed_upTo (h : okB md ops qs = true) {k : Nat} (hk : k ≤ ops.size) : Closed md ops (upTo ops.size k) := by
  intro j o ho hl e he hb
  have hj : j < ops.size := (Array.getElem?_eq_some_iff.1 ho).1
  have h1 := (okB_spec h ho).1 e he hb
  rw [upTo_get hk] at hl ⊢
  by_cases hjk : j < k
  · rw [if_pos (by omega)]
  · rw [if_neg hjk, if_pos hj] at hl
    cases hl
theorem any_of_run {K : Act → World → Prop} (hI : ∀ u n, I u → I (u.drewN n)) (h : okB md ops qs = true) : ∀ (l : List Oper) (k : Nat) (a : Act) (w : World), k + l.length = ops.size → (∀ j, l[j]? = ops[k + j]?) →
    Run P ops qs I K l a w → LAny P md ops qs I (fun a w => ∀ n, K a (w.drewN n)) l.length (upTo ops.size k) a w
  | [], k, a, w, hk, _, hr => by
    refine ⟨?_, hr⟩
    apply List.eq_nil_iff_forall_not_mem.2
    intro j hj
    obtain ⟨h0, o, ho, _⟩ := mem_ready.1 hj
    have hj' : j < ops.size := (Array.getElem?_eq_some_iff.1 ho).1
    rw [upTo_get (by omega), if_pos (by simp at hk; omega)] at h0
    cases h0
  | o :: l, k, a, w, hk, hl, hr => by
    have hk' : k < ops.size := by simp at hk; omega
    have ho : ops[k]? = some o := by simpa using (hl 0).symm
    refine first ho (Region.noSelect_spec (by simp only [okB, Bool.and_eq_true] at h; exact h.1)) (okB_spec h ho).2 l.length _ a w (closed_upTo h (by omega)) (fun i hi => by rw [upTo_get (by omega), if_pos hi]) ?_ ?_
    · refine mem_ready.2 ⟨by rw [upTo_get (by omega), if_neg (by omega), if_pos hk'], o, ho, fun e he hb => ?_⟩
      rw [upTo_get (by omega), if_pos ((okB_spec h ho).1 e he hb)]
    · rw [upTo_set hk']
      unfold LOp
      rw [ho]
      exact LStep.mono (fun a' w' h' => any_of_run hI h l (k + 1) a' w' (by simp at hk; omega) (fun j => by have := hl (j + 1); simpa [Nat.add_assoc, Nat.add_comm 1 j] using this) h') hr

/-- what holds of every order, of any world that is w but for draws -/
theorem any_sound {K : Act → World → Prop} {Q : Exit → Act → World → Prop} (hI : ∀ u n, I u → I (u.drewN n)) (hQ : ∀ a w, K a w → ∀ u, CW w u → Q .normal a u) :
    ∀ (f : Nat) (listed : Array Bool) (a : Act) (w u : World), CW w u → I w → LAny P md ops qs I K f listed a w → wpAny P md ops Q f listed a u
  | 0, _, _, _, _, hu, _, h => ⟨h.1, hQ _ _ h.2 _ hu⟩
  | f + 1, listed, a, w, u, hu, hw0, h => by
    refine ⟨fun h0 => hQ _ _ (h.1 h0) _ hu, fun i hi => ?_⟩
    have hIu : I u := by obtain ⟨n, rfl⟩ := hu; exact hI w n hw0
    have h1 := h.2 i hi
    unfold LOp at h1
    unfold wpOp
    split
    · rename_i ho
      rw [ho] at h1
      exact any_sound hI hQ f _ _ _ _ hu hw0 h1
    · rename_i o ho
      rw [ho] at h1
      dsimp only at h1
      unfold LStep at h1
      split
      · rename_i hw
        rw [if_pos hw] at h1
        left
        split at h1
        · obtain ⟨v, h2, h3⟩ := h1
          unfold Oper.wp
          rw [h2 u]
          exact any_sound hI hQ f _ _ _ _ hu hw0 h3
        · split at h1
          · exact Oper.wp_of_quiet (C := CW w) hu (fun a' u' hu' hk => any_sound hI hQ f _ _ _ _ hu' hw0 hk) h1
          · split at h1
            · obtain ⟨v, h2, h3⟩ := h1
              unfold Oper.wp
              rw [h2 u hIu]
              exact any_sound hI hQ f _ _ _ _ hu hw0 h3
            · obtain ⟨n, rfl⟩ := hu
              exact wp_of_F (Oper.wp_mono (fun a' w' hk => any_sound hI hQ f _ _ _ _ (CW.refl w') hk.1 hk.2) (h1 n))
      · rename_i hw
        rw [if_neg hw] at h1
        exact any_sound hI hQ f _ _ _ _ hu hw0 h1

/-- A REGION THAT DRAWS ITS ORDER, WALKED IN THE ORDER OF THE TEXT, FACTS HELD ALL ALONG -/
theorem wp_region_lex {id : Nat} {Q : Exit → Act → World → Prop} {a : Act} {w : World} {l : List Oper} (qs : List FuncId) (I : World → Prop) (hI : ∀ u n, I u → I (u.drewN n)) (h0 : I w) (hm : P.follows .mixedOrders = true) (hB : okB .any l.toArray qs = true)
    (h : Run P l.toArray qs I (fun a' w' => Q .normal a' w') l a w.drew) : (Code.region id l.toArray true).wp P Q a w := by
  refine wp_region_any hm ?_
  have H := any_of_run hI hB l 0 a w.drew (by simp) (fun j => by simp) h
  rw [upTo_zero] at H
  have H2 := any_sound (Q := Q) hI (fun a w hk u hu => by obtain ⟨n, rfl⟩ := hu; exact hk n) _ _ _ _ _ (CW.refl _) (show I w.drew from hI w 1 h0) H
  simpa using H2

/-! ### THE STEPS OF THE WALK -/
theorem run_nil {K : Act → World → Prop} {a : Act} {w : World} (h : ∀ n, K a (w.drewN n)) : Run P ops qs I K [] a w := h
theorem run_free {K : Act → World → Prop} {o : Oper} {rest : List Oper} {a : Act} {w : World} {v : Value} (hc : cls qs o = 0) (hw : Region.wanted o (yielded ops a.tmps) = true)
    (hv : ∀ u, (execOp a.eval o).run P u = .ok (.value v) u) (h : Run P ops qs I K rest (a.put o.dst v) w) : Run P ops qs I K (o :: rest) a w := by
  show LStep P ops qs I o (Run P ops qs I K rest) a w
  unfold LStep
  rw [if_pos hw, if_pos hc]
  exact ⟨v, hv, h⟩
theorem run_skip {K : Act → World → Prop} {o : Oper} {rest : List Oper} {a : Act} {w : World} (hw : Region.wanted o (yielded ops a.tmps) = false)
    (h : Run P ops qs I K rest (a.put o.dst undef) w) : Run P ops qs I K (o :: rest) a w := by
  show LStep P ops qs I o (Run P ops qs I K rest) a w
  unfold LStep
  rw [if_neg (by rw [hw]; simp)]
  exact h
theorem run_load {K : Act → World → Prop} {o : Oper} {rest : List Oper} {a : Act} {w : World} {v : Value} (hc : cls qs o = 4) (hw : Region.wanted o (yielded ops a.tmps) = true)
    (hv : ∀ u, I u → (execOp a.eval o).run P u = .ok (.value v) u) (h : Run P ops qs I K rest (a.put o.dst v) w) : Run P ops qs I K (o :: rest) a w := by
  show LStep P ops qs I o (Run P ops qs I K rest) a w
  unfold LStep
  rw [if_pos hw, if_neg (by rw [hc]; decide), if_neg (by rw [hc]; decide), if_pos hc]
  exact ⟨v, hv, h⟩
theorem run_call {K : Act → World → Prop} {o : Oper} {rest : List Oper} {a : Act} {w : World} {v : Value} {f : FuncId} {args : Array Value} (hc : cls qs o = 1) (hw : Region.wanted o (yielded ops a.tmps) = true)
    (hv : ∀ u, (execOp a.eval o).run P u = .ok (.enter f args) u) (hcall : ∀ n, Calls P f args (w.drewN n) fun e w' => e = .returned v ∧ ∃ k, w' = (w.drewN n).drewN k)
    (h : Run P ops qs I K rest (a.put o.dst v) w) : Run P ops qs I K (o :: rest) a w := by
  show LStep P ops qs I o (Run P ops qs I K rest) a w
  unfold LStep
  rw [if_pos hw, if_neg (by rw [hc]; decide), if_pos hc]
  refine ⟨v, fun u hu => ?_, h⟩
  obtain ⟨n, rfl⟩ := hu
  unfold Oper.quietAt
  rw [hv _]
  refine ⟨rfl, (hcall n).mono fun e w' he => ?_⟩
  obtain ⟨he, k, rfl⟩ := he
  exact ⟨he, n + k, by simp⟩
theorem run_eff {K : Act → World → Prop} {o : Oper} {rest : List Oper} {a : Act} {w : World} (hc : cls qs o = 2) (hw : Region.wanted o (yielded ops a.tmps) = true)
    (h : ∀ (n : Nat) (K' : Act → World → Prop), (∀ a' w', I w' → Run P ops qs I K rest a' w' → K' a' w') → o.wp P a (w.drewN n) K' F) : Run P ops qs I K (o :: rest) a w := by
  show LStep P ops qs I o (Run P ops qs I K rest) a w
  unfold LStep
  rw [if_pos hw, if_neg (by rw [hc]; decide), if_neg (by rw [hc]; decide), if_neg (by rw [hc]; decide)]
  exact fun n => h n _ (fun _ _ h1 h2 => ⟨h1, h2⟩)
end
end Go.Proofs.Ytlbocfinjlkebaa.Lex3
