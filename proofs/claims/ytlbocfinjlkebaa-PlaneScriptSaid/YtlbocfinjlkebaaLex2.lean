/- As Lex, with two classes more: a load yields the same in every world in which the cells that were there are there still; an operation that only makes new memory may be carried out ahead of a load. -/
import Derived.Test.YtlbocfinjlkebaaLex
namespace Go.Proofs.Ytlbocfinjlkebaa.Lex2
open Go Go.Proofs.Ytlbocfinjlkebaa.Lex

/-- the cells that were there are there still -/
def CX (w u : World) : Prop := ∀ p v, w.cell? p = some v → u.cell? p = some v
theorem CX.refl (w : World) : CX w w := fun _ _ h => h
theorem CX.trans {a b c : World} (h : CX a b) (k : CX b c) : CX a c := fun p v hp => k p v (h p v hp)
inductive Adds : {α : Type} → Sem α → Prop
  | pure {α : Type} (a : α) : Adds (Sem.pure a)
  | program {α : Type} (k : Program → Sem α) : (∀ p, Adds (k p)) → Adds (Sem.program k)
  | new {α : Type} (o : Obj) (k : Nat → Sem α) : (∀ r, Adds (k r)) → Adds (Sem.new o k)
  | halt {α : Type} (x : Halt) : Adds (Sem.halt (α := α) x)
theorem adds_run {α : Type} {P : Program} {s : Sem α} (hs : Adds s) : ∀ {w w' : World} {r : α}, s.run P w = .ok r w' → CX w w' := by
  induction hs with
  | pure a =>
    intro w w' r h
    rw [Sem.run] at h
    injection h with _ h
    subst h
    exact CX.refl _
  | program k _ ih =>
    intro w w' r h
    rw [Sem.run] at h
    exact ih P h
  | new o k _ ih =>
    intro w w' r h
    rw [Sem.run] at h
    refine CX.trans ?_ (ih _ h)
    intro p v hp
    exact (World.cell?_alloc_lt w o p (World.block_lt_of_cell? w p hp)).trans hp
  | halt x =>
    intro w w' r h
    rw [Sem.run] at h
    cases h
theorem adds_bind {α β : Type} {f : α → Sem β} (hf : ∀ a, Adds (f a)) {s : Sem α} (hs : Adds s) : Adds (s >>= f) := by
  show Adds (Sem.bind s f)
  induction hs with
  | pure a => exact hf a
  | program k _ ih => exact .program _ fun p => ih p
  | new o k _ ih => exact .new _ _ fun r => ih r
  | halt x => exact .halt x
theorem adds_program : Adds program := .program _ fun p => .pure p
theorem adds_underlying (t : TypeId) : Adds (underlying t) := by
  unfold underlying
  refine adds_bind (fun p => ?_) adds_program
  split
  · exact .pure _
  · exact .halt _
theorem adds_newRow (t : TypeId) (cs : Array Value) : Adds (newRow t cs) := by
  unfold newRow
  exact adds_bind (fun p => .pure _) (.new _ _ fun r => .pure r)
theorem adds_box (t : TypeId) (v : Value) : Adds (Instr.box t v) := by
  unfold Instr.box newVar
  exact adds_bind (fun p => .pure _) (adds_newRow _ _)
theorem adds_typeInfo (t : TypeId) : Adds (typeInfo t) := by
  unfold typeInfo
  refine adds_bind (fun p => ?_) adds_program
  split
  · exact .pure _
  · exact .halt _
theorem adds_zero (t : TypeId) : Adds (zeroValue t) := by
  unfold zeroValue
  refine adds_bind (fun p => ?_) (adds_typeInfo t)
  split
  · exact .pure _
  · exact .halt _
theorem adds_sizeOf (t : TypeId) : Adds (sizeOf t) := by
  unfold sizeOf
  exact adds_bind (fun p => .pure _) (adds_typeInfo t)
theorem adds_buildSlice (t : TypeId) (n : Nat) (ps : Array (Nat × Value)) : Adds (Instr.buildSlice t n ps) := by
  unfold Instr.buildSlice
  refine adds_bind (fun d => ?_) (adds_underlying t)
  split
  · refine adds_bind (fun d => ?_) (adds_sizeOf _)
    have hl : ∀ {c : Option (Array Value)} {e : TypeId}, Adds (match c with
        | some cells => (newRow e cells) >>= fun a => (Pure.pure (Value.slice (some a) n n) : Sem Value)
        | _ => stuck "buildSlice: a part of the wrong size") := by
      intro c e
      cases c with
      | some cells => exact adds_bind (fun p => .pure _) (adds_newRow _ _)
      | none => exact .halt _
    have hr : ∀ elem : TypeId, Adds (if n * d = 0 then (do
        let zero ← (Pure.pure #[] : Sem (Array Value))
        match Instr.fill (fun i => some (i * d, d)) (Array.map (fun x => zero[x % zero.size]!) (Array.range (n * d))) ps.toList with
        | some cells => (newRow elem cells) >>= fun a => (Pure.pure (Value.slice (some a) n n) : Sem Value)
        | _ => stuck "buildSlice: a part of the wrong size") else (do
        let v ← zeroValue elem
        let zero ← (Pure.pure v.cells : Sem (Array Value))
        match Instr.fill (fun i => some (i * d, d)) (Array.map (fun x => zero[x % zero.size]!) (Array.range (n * d))) ps.toList with
        | some cells => (newRow elem cells) >>= fun a => (Pure.pure (Value.slice (some a) n n) : Sem Value)
        | _ => stuck "buildSlice: a part of the wrong size")) := by
      intro elem
      split
      · exact adds_bind (fun p => hl) (.pure _)
      · exact adds_bind (fun v => adds_bind (fun p => hl) (.pure _)) (adds_zero _)
    dsimp only
    split
    · exact adds_bind (fun p => hr _) (.halt _)
    · exact hr _
  · exact .halt _
theorem value_only {P : Program} {s : Sem Value} {w w' : World} {n : Next} (h : (do pure (.value (← s)) : Sem Next).run P w = .ok n w') : ∃ v, n = .value v := by
  rw [Sem.run_bind] at h
  generalize s.run P w = r at h
  cases r with
  | ok v w1 =>
    simp only [Result.andThen_ok, Sem.run_pure] at h
    injection h with h _
    exact ⟨v, h.symm⟩
  | halt x w1 => simp [Result.andThen] at h

/-- 0: yields its value in whatever world · 1: calls a function that only reads · 2: anything · 3: only makes new memory · 4: loads -/
def cls (qs : List FuncId) (o : Oper) : Nat := match o.op with
  | .move _ | .assign _ | .pick .. | .nilCheck _ | .binOp .. | .unOp .. | .convert .. | .fieldAddr .. | .indexAddr .. | .slice .. | .extract .. | .field .. | .index .. | .build .. => 0
  | .load .. => 4
  | .buildSlice .. | .box .. => 3
  | .call c => match c.callee with
    | .builtin .len | .builtin .cap | .builtin .min | .builtin .max => 0
    | .value (.func f) => if qs.contains f then 1 else 2
    | _ => 2
  | _ => 2

section
variable {P : Program} {ops : Array Oper} {qs : List FuncId} {md : Region.Mode}

/-- one operation, by its class -/
def LStep (P : Program) (ops : Array Oper) (qs : List FuncId) (o : Oper) (K : Act → World → Prop) (a : Act) (w : World) : Prop :=
  if Region.wanted o (yielded ops a.tmps) = true then
    (if cls qs o = 0 then ∃ v, (∀ u, (execOp a.eval o).run P u = .ok (.value v) u) ∧ K (a.put o.dst v) w
     else if cls qs o = 1 then o.quiet P a (CW w) (fun a' => K a' w)
     else if cls qs o = 4 then ∃ v, (∀ u, CX w u → (execOp a.eval o).run P u = .ok (.value v) u) ∧ K (a.put o.dst v) w
     else ∀ n, o.wp P a (w.drewN n) K F)
  else K (a.put o.dst undef) w

theorem LStep.mono {o : Oper} {K K' : Act → World → Prop} {a : Act} {w : World} (h : ∀ a w, K a w → K' a w) (hh : LStep P ops qs o K a w) : LStep P ops qs o K' a w := by
  unfold LStep at *
  split
  · rename_i hw
    rw [if_pos hw] at hh
    split
    · rename_i hc
      rw [if_pos hc] at hh
      obtain ⟨v, h1, h2⟩ := hh
      exact ⟨v, h1, h _ _ h2⟩
    · rename_i hc
      rw [if_neg hc] at hh
      split
      · rename_i hc1
        rw [if_pos hc1] at hh
        exact Oper.quiet_mono (fun a' => h a' w) hh
      · rename_i hc1
        rw [if_neg hc1] at hh
        split
        · rename_i hc4
          rw [if_pos hc4] at hh
          obtain ⟨v, h1, h2⟩ := hh
          exact ⟨v, h1, h _ _ h2⟩
        · rename_i hc4
          rw [if_neg hc4] at hh
          exact fun n => Oper.wp_mono h (hh n)
  · rename_i hw
    rw [if_neg hw] at hh
    exact h _ _ hh

theorem wp_adds {o : Oper} (hc : cls qs o = 3) {K : Act → World → Prop} {a : Act} {w : World} (hh : o.wp P a w K F) : o.wp P a w (fun a1 w1 => CX w w1 ∧ K a1 w1) F := by
  have key : ∀ n w', (execOp a.eval o).run P w = .ok n w' → CX w w' ∧ ∃ v, n = .value v := by
    intro n w' hr
    obtain ⟨dst, op, ty, pos, aft, gd⟩ := o
    cases op
    case buildSlice =>
      unfold execOp at hr
      dsimp only at hr
      exact ⟨adds_run (adds_bind (fun v => .pure _) (adds_buildSlice _ _ _)) hr, value_only hr⟩
    case box =>
      unfold execOp at hr
      dsimp only at hr
      exact ⟨adds_run (adds_bind (fun v => .pure _) (adds_box _ _)) hr, value_only hr⟩
    case call c =>
      exfalso
      simp only [cls] at hc
      split at hc
      all_goals first
        | (exact absurd hc (by decide))
        | (split at hc <;> exact absurd hc (by decide))
    all_goals exact absurd hc (by simp [cls])
  unfold Oper.wp at *
  generalize (execOp a.eval o).run P w = r at *
  cases r with
  | ok n w' =>
    obtain ⟨h1, v, rfl⟩ := key n w' rfl
    simp only [Oper.upon] at hh ⊢
    exact ⟨h1, hh⟩
  | halt x w' =>
    cases x <;> simp only [Oper.upon] at hh ⊢
    case panic u => exact hh.elim

/-- may two operations change places? (x stands ahead of y in the text) -/
def commB (ops : Array Oper) (qs : List FuncId) (x y : Oper) : Bool := x.apart ops y && (cls qs x == 0 || cls qs y == 0 || ((cls qs x == 1 || cls qs x == 4) && (cls qs y == 1 || cls qs y == 4)) || (cls qs x == 4 && cls qs y == 3))

/-- THE EXCHANGE. -/
theorem exchange {k j : Oper} (hc : commB ops qs k j = true) (hk : ∀ cs b, k.op ≠ .select cs b) (hj : ∀ cs b, j.op ≠ .select cs b) {K : Act → World → Prop} {a : Act} {w : World}
    (H : LStep P ops qs k (LStep P ops qs j K) a w) : LStep P ops qs j (LStep P ops qs k K) a w := by
  simp only [commB, Bool.and_eq_true, Bool.or_eq_true, beq_iff_eq] at hc
  obtain ⟨hap, hcls⟩ := hc
  obtain ⟨h1, h2, h3⟩ := Oper.apart_spec hap
  have h2' : ∀ d, j.dst = some d → k.dst ≠ some d := fun d hd e => h2 d e hd
  have pc : ∀ (a : Act) (v u : Value), (a.put k.dst v).put j.dst u = (a.put j.dst u).put k.dst v := fun a v u => Act.put_comm a v u h2
  have sj : ∀ (a : Act) (v : Value), Same ops j a (a.put k.dst v) := fun a v => Same.put hj h1 a v
  have sk : ∀ (a : Act) (u : Value), Same ops k a (a.put j.dst u) := fun a u => Same.put hk h3 a u
  -- k is passed over, or yields one value and leaves the world alone (in the worlds that matter)
  have simpleK : ∀ (v : Value), (Region.wanted k (yielded ops a.tmps) = true → cls qs k = 0 ∨ cls qs k = 1 ∨ cls qs k = 4) → LStep P ops qs j K (a.put k.dst v) w →
      (∀ (a' : Act) (w' : World), Same ops k a a' → (Region.wanted k (yielded ops a.tmps) = true → cls qs k = 1 → w' = w) → (Region.wanted k (yielded ops a.tmps) = true → cls qs k = 4 → CX w w') → K (a'.put k.dst v) w' → LStep P ops qs k K a' w') →
      LStep P ops qs j (LStep P ops qs k K) a w := by
    intro v hkc H hback
    unfold LStep at H ⊢
    rw [(sj a v).2] at H
    split
    · rename_i hw
      rw [if_pos hw] at H
      split
      · rename_i hc0
        rw [if_pos hc0] at H
        obtain ⟨u, hu, hK⟩ := H
        refine ⟨u, fun x => by rw [← (sj a v).1]; exact hu x, ?_⟩
        exact hback _ _ (sk a u) (fun _ _ => rfl) (fun _ _ => CX.refl _) (by rw [← pc]; exact hK)
      · rename_i hc0
        rw [if_neg hc0] at H
        split
        · rename_i hc1
          rw [if_pos hc1] at H
          obtain ⟨u, hu, hK⟩ := H
          refine ⟨u, fun x hx => quiet_same (sj a v).1.symm (hu x hx), ?_⟩
          exact hback _ _ (sk a u) (fun _ _ => rfl) (fun _ _ => CX.refl _) (by rw [← pc]; exact hK)
        · rename_i hc1
          rw [if_neg hc1] at H
          split
          · rename_i hc4
            rw [if_pos hc4] at H
            obtain ⟨u, hu, hK⟩ := H
            refine ⟨u, fun x hx => by rw [← (sj a v).1]; exact hu x hx, ?_⟩
            exact hback _ _ (sk a u) (fun _ _ => rfl) (fun _ _ => CX.refl _) (by rw [← pc]; exact hK)
          · rename_i hc4
            rw [if_neg hc4] at H
            intro n
            by_cases hj3 : cls qs j = 3
            · refine Oper.wp_mono ?_ (wp_adds hj3 (wp_same (ops := ops) hk h3 (wp_put_out (ops := ops) hj h1 h2 (H n))))
              rintro a1 w1 ⟨hx, hs, hK⟩
              refine hback a1 w1 hs ?_ (fun _ _ => (show CX w w1 from hx)) hK
              intro _ hk1
              exfalso
              rcases hcls with ((h | h) | ⟨_, h⟩) | ⟨h, _⟩
              · omega
              · exact hc0 h
              · omega
              · omega
            · refine Oper.wp_mono ?_ (wp_same (ops := ops) hk h3 (wp_put_out (ops := ops) hj h1 h2 (H n)))
              rintro a1 w1 ⟨hs, hK⟩
              refine hback a1 w1 hs ?_ ?_ hK
              all_goals
                intro _ hk1
                exfalso
                rcases hcls with ((h | h) | ⟨_, h⟩) | ⟨_, h⟩
                · omega
                · exact hc0 h
                · omega
                · exact hj3 h
    · rename_i hw
      rw [if_neg hw] at H
      exact hback _ _ (sk a undef) (fun _ _ => rfl) (fun _ _ => CX.refl _) (by rw [← pc]; exact H)
  by_cases hw : Region.wanted k (yielded ops a.tmps) = true
  · by_cases hk0 : cls qs k = 0
    · unfold LStep at H
      rw [if_pos hw, if_pos hk0] at H
      obtain ⟨v, hv, HJ⟩ := H
      refine simpleK v (fun _ => .inl hk0) HJ ?_
      intro a' w' hs _ _ hK
      unfold LStep
      rw [hs.2, if_pos hw, if_pos hk0]
      exact ⟨v, fun u => by rw [hs.1]; exact hv u, hK⟩
    · by_cases hk1 : cls qs k = 1
      · unfold LStep at H
        rw [if_pos hw, if_neg hk0, if_pos hk1] at H
        obtain ⟨v, hv, HJ⟩ := H
        refine simpleK v (fun _ => .inr (.inl hk1)) HJ ?_
        intro a' w' hs he _ hK
        obtain rfl := he hw hk1
        unfold LStep
        rw [hs.2, if_pos hw, if_neg hk0, if_pos hk1]
        exact ⟨v, fun u hu => quiet_same hs.1 (hv u hu), hK⟩
      · by_cases hk4 : cls qs k = 4
        · unfold LStep at H
          rw [if_pos hw, if_neg hk0, if_neg hk1, if_pos hk4] at H
          obtain ⟨v, hv, HJ⟩ := H
          refine simpleK v (fun _ => .inr (.inr hk4)) HJ ?_
          intro a' w' hs _ hx hK
          unfold LStep
          rw [hs.2, if_pos hw, if_neg hk0, if_neg hk1, if_pos hk4]
          exact ⟨v, fun u hu => by rw [hs.1]; exact hv u ((hx hw hk4).trans hu), hK⟩
        · -- k is an effect: j yields in whatever world
          have hj0 : cls qs j = 0 := by
            rcases hcls with ((h | h) | ⟨h, _⟩) | ⟨h, _⟩
            · exact absurd h hk0
            · exact h
            · omega
            · exact absurd h hk4
          unfold LStep at H
          rw [if_pos hw, if_neg hk0, if_neg hk1, if_neg hk4] at H
          have HS := fun n => wp_same (ops := ops) hj h1 (H n)
          obtain ⟨a1, w1, hs1, hK1⟩ := wp_some (HS 0)
          unfold LStep
          by_cases hwj : Region.wanted j (yielded ops a.tmps) = true
          · rw [if_pos hwj, if_pos hj0]
            rw [hs1.2, if_pos hwj, if_pos hj0] at hK1
            obtain ⟨u, hu, _⟩ := hK1
            refine ⟨u, fun x => by rw [← hs1.1]; exact hu x, ?_⟩
            rw [(sk a u).2, if_pos hw, if_neg hk0, if_neg hk1, if_neg hk4]
            intro n
            refine wp_put_in (ops := ops) hk h3 h2' (Oper.wp_mono ?_ (HS n))
            rintro a2 w2 ⟨hs2, hK2⟩
            rw [hs2.2, if_pos hwj, if_pos hj0] at hK2
            obtain ⟨u', hu', hK2⟩ := hK2
            have e1 := hu' w
            have e2 := hu w
            rw [hs2.1] at e1
            rw [hs1.1, e1] at e2
            injection e2 with e2
            injection e2 with e2
            rw [← e2]
            exact hK2
          · rw [if_neg hwj]
            rw [(sk a undef).2, if_pos hw, if_neg hk0, if_neg hk1, if_neg hk4]
            intro n
            refine wp_put_in (ops := ops) hk h3 h2' (Oper.wp_mono ?_ (HS n))
            rintro a2 w2 ⟨hs2, hK2⟩
            rw [hs2.2, if_neg hwj] at hK2
            exact hK2
  · unfold LStep at H
    rw [if_neg hw] at H
    refine simpleK undef (fun h => absurd h hw) H ?_
    intro a' w' hs _ _ hK
    unfold LStep
    rw [hs.2, if_neg hw]
    exact hK

/-- operation number i -/
def LOp (P : Program) (ops : Array Oper) (qs : List FuncId) (i : Nat) (K : Act → World → Prop) (a : Act) (w : World) : Prop := match ops[i]? with
  | none => K a w
  | some o => LStep P ops qs o K a w
theorem LOp.mono {i : Nat} {K K' : Act → World → Prop} {a : Act} {w : World} (h : ∀ a w, K a w → K' a w) (hh : LOp P ops qs i K a w) : LOp P ops qs i K' a w := by
  unfold LOp at *
  split
  · rename_i ho
    rw [ho] at hh
    exact h _ _ hh
  · rename_i o ho
    rw [ho] at hh
    exact LStep.mono h hh

/-- whatever order is picked from here on -/
def LAny (P : Program) (md : Region.Mode) (ops : Array Oper) (qs : List FuncId) (K : Act → World → Prop) : Nat → Array Bool → Act → World → Prop
  | 0, listed, a, w => Region.ready md ops listed = [] ∧ K a w
  | f + 1, listed, a, w => (Region.ready md ops listed = [] → K a w) ∧ ∀ i ∈ Region.ready md ops listed, LOp P ops qs i (LAny P md ops qs K f (listed.setIfInBounds i true)) a w

/-- number k may be taken first, if whatever else might come up ahead of it may change places with it -/
theorem first {K : Act → World → Prop} {k : Nat} {ok : Oper} (hk : ops[k]? = some ok) (hsel : ∀ (j : Nat) (o : Oper) cs b, ops[j]? = some o → o.op ≠ .select cs b)
    (hcomm : ∀ (j : Nat) (oj : Oper), ops[j]? = some oj → k < j → ¬ Waits md ops j k → commB ops qs ok oj = true) :
    ∀ (fuel : Nat) (listed : Array Bool) (a : Act) (w : World), Closed md ops listed → (∀ i, i < k → listed.getD i false = true) → k ∈ Region.ready md ops listed →
      LOp P ops qs k (LAny P md ops qs K fuel (listed.setIfInBounds k true)) a w → LAny P md ops qs K (fuel + 1) listed a w := by
  intro fuel
  induction fuel with
  | zero =>
    intro listed a w hcl hlow hr H
    refine ⟨fun h => (by rw [h] at hr; cases hr), fun j hj => ?_⟩
    by_cases hjk : j = k
    · subst hjk; exact H
    · exfalso
      have hj' := ready_mono hj hjk
      -- behind k nothing is ready any more
      have hno : ∀ {o : Oper} {a : Act} {w : World}, LStep P ops qs o (LAny P md ops qs K 0 (listed.setIfInBounds k true)) a w → Region.ready md ops (listed.setIfInBounds k true) = [] := by
        intro o a w h
        unfold LStep at h
        split at h
        · split at h
          · obtain ⟨_, _, h⟩ := h; exact h.1
          · split at h
            · obtain ⟨_, _, h⟩ := h; exact h.1
            · split at h
              · obtain ⟨_, _, h⟩ := h; exact h.1
              · obtain ⟨_, _, h⟩ := wp_some (h 0); exact h.1
        · exact h.1
      have hn : Region.ready md ops (listed.setIfInBounds k true) = [] := by
        unfold LOp at H
        rw [hk] at H
        exact hno H
      rw [hn] at hj'
      cases hj'
  | succ fuel ih =>
    intro listed a w hcl hlow hr H
    refine ⟨fun h => (by rw [h] at hr; cases hr), fun j hj => ?_⟩
    by_cases hjk : j = k
    · subst hjk; exact H
    · obtain ⟨hjun, oj, hoj, _⟩ := mem_ready.1 hj
      have hkj : k < j := by
        rcases Nat.lt_or_ge k j with h | h
        · exact h
        · have h1 := hlow j (by omega)
          rw [listed_both hjun] at h1
          cases h1
      have hc := hcomm j oj hoj hkj (hcl.ready hj hr)
      have H2 : LStep P ops qs ok (LStep P ops qs oj (LAny P md ops qs K fuel ((listed.setIfInBounds k true).setIfInBounds j true))) a w := by
        unfold LOp at H
        rw [hk] at H
        refine LStep.mono (fun a' w' h => ?_) H
        have := h.2 j (ready_mono hj hjk)
        unfold LOp at this
        rw [hoj] at this
        exact this
      have H3 := exchange hc (fun cs b => hsel k ok cs b hk) (fun cs b => hsel j oj cs b hoj) H2
      unfold LOp
      rw [hoj]
      refine LStep.mono (fun a' w' h => ?_) H3
      refine ih (listed.setIfInBounds j true) a' w' (hcl.set hj) (fun i hi => getD_set_true (hlow i hi)) (ready_mono hr (Ne.symm hjk)) ?_
      rw [Array.setIfInBounds_comm _ _ hjk]
      unfold LOp
      rw [hk]
      exact h

/-- THE WALK: the operations in the order of the text -/
def Run (P : Program) (ops : Array Oper) (qs : List FuncId) (K : Act → World → Prop) : List Oper → Act → World → Prop
  | [], a, w => ∀ n, K a (w.drewN n)
  | o :: rest, a, w => LStep P ops qs o (Run P ops qs K rest) a w

/-- the closed look at a region -/
def okB (md : Region.Mode) (ops : Array Oper) (qs : List FuncId) : Bool :=
  Region.noSelect ops && (List.range ops.size).all fun k => match ops[k]? with
    | none => false
    | some ok => (ok.after.all fun e => !Region.binds md e || Nat.blt e.on k) && (List.range ops.size).all fun j => Nat.ble j k || match ops[j]? with
      | none => false
      | some oj => commB ops qs ok oj || waitsB md ops ops.size j k

theorem okB_spec (h : okB md ops qs = true) {k : Nat} {ok : Oper} (hk : ops[k]? = some ok) :
    (∀ e ∈ ok.after, Region.binds md e = true → e.on < k) ∧ ∀ (j : Nat) (oj : Oper), ops[j]? = some oj → k < j → ¬ Waits md ops j k → commB ops qs ok oj = true := by
  simp only [okB, Bool.and_eq_true, List.all_eq_true, List.mem_range] at h
  have hkl : k < ops.size := (Array.getElem?_eq_some_iff.1 hk).1
  have h1 := h.2 k hkl
  rw [hk] at h1
  simp only [Bool.and_eq_true, List.all_eq_true, List.mem_range] at h1
  refine ⟨fun e he hb => ?_, fun j oj hj hkj hw => ?_⟩
  · have h2 := Array.all_eq_true_iff_forall_mem.1 h1.1 e he
    simp only [hb, Bool.not_true, Bool.false_or] at h2
    exact Nat.blt_eq.mp h2
  · have h2 := h1.2 j (Array.getElem?_eq_some_iff.1 hj).1
    rw [hj] at h2
    simp only [Bool.or_eq_true] at h2
    rcases h2 with h2 | h2 | h2
    · have := Nat.ble_eq.mp h2; omega
    · exact h2
    · exact absurd (waits_of h2) hw
theorem closed_upTo (h : okB md ops qs = true) {k : Nat} (hk : k ≤ ops.size) : Closed md ops (upTo ops.size k) := by
  intro j o ho hl e he hb
  have hj : j < ops.size := (Array.getElem?_eq_some_iff.1 ho).1
  have h1 := (okB_spec h ho).1 e he hb
  rw [upTo_get hk] at hl ⊢
  by_cases hjk : j < k
  · rw [if_pos (by omega)]
  · rw [if_neg hjk, if_pos hj] at hl
    cases hl
theorem any_of_run {K : Act → World → Prop} (h : okB md ops qs = true) : ∀ (l : List Oper) (k : Nat) (a : Act) (w : World), k + l.length = ops.size → (∀ j, l[j]? = ops[k + j]?) →
    Run P ops qs K l a w → LAny P md ops qs (fun a w => ∀ n, K a (w.drewN n)) l.length (upTo ops.size k) a w
  | [], k, a, w, hk, _, hr => by
    refine ⟨?_, hr⟩
    apply List.eq_nil_iff_forall_not_mem.2
    intro j hj
    obtain ⟨h0, o, ho, _⟩ := mem_ready.1 hj
    have hj' : j < ops.size := (Array.getElem?_eq_some_iff.1 ho).1
    rw [upTo_get (by omega), if_pos (by simp at hk; omega)] at h0
    cases h0
  | o :: l, k, a, w, hk, hl, hr => by
    have hk' : k < ops.size := by simp at hk; omega
    have ho : ops[k]? = some o := by simpa using (hl 0).symm
    refine first ho (Region.noSelect_spec (by simp only [okB, Bool.and_eq_true] at h; exact h.1)) (okB_spec h ho).2 l.length _ a w (closed_upTo h (by omega)) (fun i hi => by rw [upTo_get (by omega), if_pos hi]) ?_ ?_
    · refine mem_ready.2 ⟨by rw [upTo_get (by omega), if_neg (by omega), if_pos hk'], o, ho, fun e he hb => ?_⟩
      rw [upTo_get (by omega), if_pos ((okB_spec h ho).1 e he hb)]
    · rw [upTo_set hk']
      unfold LOp
      rw [ho]
      exact LStep.mono (fun a' w' h' => any_of_run h l (k + 1) a' w' (by simp at hk; omega) (fun j => by have := hl (j + 1); simpa [Nat.add_assoc, Nat.add_comm 1 j] using this) h') hr

/-- what holds of every order, of any world that is w but for draws -/
theorem any_sound {K : Act → World → Prop} {Q : Exit → Act → World → Prop} (hQ : ∀ a w, K a w → ∀ u, CW w u → Q .normal a u) :
    ∀ (f : Nat) (listed : Array Bool) (a : Act) (w u : World), CW w u → LAny P md ops qs K f listed a w → wpAny P md ops Q f listed a u
  | 0, _, _, _, _, hu, h => ⟨h.1, hQ _ _ h.2 _ hu⟩
  | f + 1, listed, a, w, u, hu, h => by
    refine ⟨fun h0 => hQ _ _ (h.1 h0) _ hu, fun i hi => ?_⟩
    have h1 := h.2 i hi
    unfold LOp at h1
    unfold wpOp
    split
    · rename_i ho
      rw [ho] at h1
      exact any_sound hQ f _ _ _ _ hu h1
    · rename_i o ho
      rw [ho] at h1
      dsimp only at h1
      unfold LStep at h1
      split
      · rename_i hw
        rw [if_pos hw] at h1
        left
        split at h1
        · obtain ⟨v, h2, h3⟩ := h1
          unfold Oper.wp
          rw [h2 u]
          exact any_sound hQ f _ _ _ _ hu h3
        · split at h1
          · exact Oper.wp_of_quiet (C := CW w) hu (fun a' u' hu' hk => any_sound hQ f _ _ _ _ hu' hk) h1
          · split at h1
            · obtain ⟨v, h2, h3⟩ := h1
              unfold Oper.wp
              rw [h2 u (by obtain ⟨n, rfl⟩ := hu; exact fun p v hp => hp)]
              exact any_sound hQ f _ _ _ _ hu h3
            · obtain ⟨n, rfl⟩ := hu
              exact wp_of_F (Oper.wp_mono (fun a' w' hk => any_sound hQ f _ _ _ _ (CW.refl w') hk) (h1 n))
      · rename_i hw
        rw [if_neg hw] at h1
        exact any_sound hQ f _ _ _ _ hu h1

/-- A REGION THAT DRAWS ITS ORDER, WALKED IN THE ORDER OF THE TEXT -/
theorem wp_region_lex {id : Nat} {Q : Exit → Act → World → Prop} {a : Act} {w : World} {l : List Oper} (qs : List FuncId) (hm : P.follows .mixedOrders = true) (hB : okB .any l.toArray qs = true)
    (h : Run P l.toArray qs (fun a' w' => Q .normal a' w') l a w.drew) : (Code.region id l.toArray true).wp P Q a w := by
  refine wp_region_any hm ?_
  have H := any_of_run hB l 0 a w.drew (by simp) (fun j => by simp) h
  rw [upTo_zero] at H
  have H2 := any_sound (Q := Q) (fun a w hk u hu => by obtain ⟨n, rfl⟩ := hu; exact hk n) _ _ _ _ _ (CW.refl _) H
  simpa using H2

/-! ### THE STEPS OF THE WALK -/
theorem run_nil {K : Act → World → Prop} {a : Act} {w : World} (h : ∀ n, K a (w.drewN n)) : Run P ops qs K [] a w := h
theorem run_free {K : Act → World → Prop} {o : Oper} {rest : List Oper} {a : Act} {w : World} {v : Value} (hc : cls qs o = 0) (hw : Region.wanted o (yielded ops a.tmps) = true)
    (hv : ∀ u, (execOp a.eval o).run P u = .ok (.value v) u) (h : Run P ops qs K rest (a.put o.dst v) w) : Run P ops qs K (o :: rest) a w := by
  show LStep P ops qs o (Run P ops qs K rest) a w
  unfold LStep
  rw [if_pos hw, if_pos hc]
  exact ⟨v, hv, h⟩
theorem run_skip {K : Act → World → Prop} {o : Oper} {rest : List Oper} {a : Act} {w : World} (hw : Region.wanted o (yielded ops a.tmps) = false)
    (h : Run P ops qs K rest (a.put o.dst undef) w) : Run P ops qs K (o :: rest) a w := by
  show LStep P ops qs o (Run P ops qs K rest) a w
  unfold LStep
  rw [if_neg (by rw [hw]; simp)]
  exact h
theorem run_load {K : Act → World → Prop} {o : Oper} {rest : List Oper} {a : Act} {w : World} {v : Value} (hc : cls qs o = 4) (hw : Region.wanted o (yielded ops a.tmps) = true)
    (hv : ∀ u, CX w u → (execOp a.eval o).run P u = .ok (.value v) u) (h : Run P ops qs K rest (a.put o.dst v) w) : Run P ops qs K (o :: rest) a w := by
  show LStep P ops qs o (Run P ops qs K rest) a w
  unfold LStep
  rw [if_pos hw, if_neg (by rw [hc]; decide), if_neg (by rw [hc]; decide), if_pos hc]
  exact ⟨v, hv, h⟩
theorem run_call {K : Act → World → Prop} {o : Oper} {rest : List Oper} {a : Act} {w : World} {v : Value} {f : FuncId} {args : Array Value} (hc : cls qs o = 1) (hw : Region.wanted o (yielded ops a.tmps) = true)
    (hv : ∀ n, (execOp a.eval o).run P (w.drewN n) = .ok (.enter f args) (w.drewN n)) (hcall : ∀ n, Calls P f args (w.drewN n) fun e w' => e = .returned v ∧ ∃ k, w' = (w.drewN n).drewN k)
    (h : Run P ops qs K rest (a.put o.dst v) w) : Run P ops qs K (o :: rest) a w := by
  show LStep P ops qs o (Run P ops qs K rest) a w
  unfold LStep
  rw [if_pos hw, if_neg (by rw [hc]; decide), if_pos hc]
  refine ⟨v, fun u hu => ?_, h⟩
  obtain ⟨n, rfl⟩ := hu
  unfold Oper.quietAt
  rw [hv n]
  refine ⟨rfl, (hcall n).mono fun e w' he => ?_⟩
  obtain ⟨he, k, rfl⟩ := he
  exact ⟨he, n + k, by simp⟩
theorem run_eff {K : Act → World → Prop} {o : Oper} {rest : List Oper} {a : Act} {w : World} (hc : cls qs o = 2 ∨ cls qs o = 3) (hw : Region.wanted o (yielded ops a.tmps) = true)
    (h : ∀ (n : Nat) (K' : Act → World → Prop), (∀ a' w', Run P ops qs K rest a' w' → K' a' w') → o.wp P a (w.drewN n) K' F) : Run P ops qs K (o :: rest) a w := by
  show LStep P ops qs o (Run P ops qs K rest) a w
  unfold LStep
  rw [if_pos hw, if_neg (by omega), if_neg (by omega), if_neg (by omega)]
  exact fun n => h n _ (fun _ _ h => h)
end
end Go.Proofs.Ytlbocfinjlkebaa.Lex2
