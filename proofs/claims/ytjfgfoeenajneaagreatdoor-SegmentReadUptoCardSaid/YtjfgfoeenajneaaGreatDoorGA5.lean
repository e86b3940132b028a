/- A region that draws its order, walked once in the order of the text, where what Go leaves open makes no difference: two operations that may come in either order touch different temporaries, and one of them yields its value in whatever world, or both only read. As Lex, with facts I that hold all along: what only reads yields the same in every world in which I holds, and may change places with whatever keeps I. As Lex3, in any order that is given; where two operations may not change places both orders are walked. As Lex4, where the last operation waits for all others and may undo what held: a store to a cell that the region loads. As Lex3, conversions apart: with facts I that hold all along: what only reads yields the same in every world in which I holds, and may change places with whatever keeps I. As Lex5, in any order that is given; where two operations may not change places both orders are walked. -/
import Derived.Orders
import Derived.Deep.Quiet
import Derived.WalkKit
namespace Go.Proofs.YtjfgfoeenajneaaGreatDoor.Lex
open Go

/-- the worlds that are w but for draws -/
def CW (w : World) : World → Prop := fun u => ∃ n, u = w.drewN n
theorem CW.refl (w : World) : CW w w := ⟨0, rfl⟩
abbrev F : Exit → Act → World → Prop := fun _ _ _ => False

/-- 0: yields its value in whatever world · 1: only reads (or calls a function that only reads) · 2: anything -/
def cls (qs : List FuncId) (o : Oper) : Nat := match o.op with
  | .move _ | .assign _ | .pick .. | .nilCheck _ | .binOp .. | .unOp .. | .convert .. | .fieldAddr .. | .indexAddr .. | .slice .. | .extract .. | .field .. | .index .. | .build .. => 0
  | .load .. => 1
  | .call c => match c.callee with
    | .builtin .len | .builtin .cap | .builtin .min | .builtin .max => 0
    | .value (.func f) => if qs.contains f then 1 else 2
    | _ => 2
  | _ => 2

section
variable {P : Program} {ops : Array Oper} {qs : List FuncId} {md : Region.Mode}

/-- one operation, by its class -/
def LStep (P : Program) (ops : Array Oper) (qs : List FuncId) (o : Oper) (K : Act → World → Prop) (a : Act) (w : World) : Prop :=
  if Region.wanted o (yielded ops a.tmps) = true then
    (if cls qs o = 0 then ∃ v, (∀ u, (execOp a.eval o).run P u = .ok (.value v) u) ∧ K (a.put o.dst v) w
     else if cls qs o = 1 then o.quiet P a (CW w) (fun a' => K a' w)
     else ∀ n, o.wp P a (w.drewN n) K F)
  else K (a.put o.dst undef) w

theorem LStep.mono {o : Oper} {K K' : Act → World → Prop} {a : Act} {w : World} (h : ∀ a w, K a w → K' a w) (hh : LStep P ops qs o K a w) : LStep P ops qs o K' a w := by
  unfold LStep at *
  split
  · rename_i hw
    rw [if_pos hw] at hh
    split
    · rename_i hc
      rw [if_pos hc] at hh
      obtain ⟨v, h1, h2⟩ := hh
      exact ⟨v, h1, h _ _ h2⟩
    · rename_i hc
      rw [if_neg hc] at hh
      split
      · rename_i hc1
        rw [if_pos hc1] at hh
        exact Oper.quiet_mono (fun a' => h a' w) hh
      · rename_i hc1
        rw [if_neg hc1] at hh
        exact fun n => Oper.wp_mono h (hh n)
  · rename_i hw
    rw [if_neg hw] at hh
    exact h _ _ hh

/-- what an operation looks at is the same -/
def Same (ops : Array Oper) (o : Oper) (a a' : Act) : Prop := execOp a'.eval o = execOp a.eval o ∧ Region.wanted o (yielded ops a'.tmps) = Region.wanted o (yielded ops a.tmps)
theorem Same.put {o x : Oper} (hs : ∀ cs b, o.op ≠ .select cs b) (h : ∀ d, x.dst = some d → d ∉ o.looksAt ops) (a : Act) (v : Value) : Same ops o a (a.put x.dst v) :=
  ⟨execOp_put o hs a x.dst v h, wanted_put o a x.dst v h⟩
theorem Same.defers {o : Oper} (a : Act) (d : Deferred) : Same ops o a { a with defers := d :: a.defers } := ⟨rfl, rfl⟩
theorem Same.trans {o : Oper} {a b c : Act} (h : Same ops o a b) (k : Same ops o b c) : Same ops o a c := ⟨k.1.trans h.1, k.2.trans h.2⟩

/-- an effect behind which another operation still looks at the same; the value of that one may be laid into its place before or after -/
theorem wp_same {oj ok : Oper} (hs : ∀ cs b, oj.op ≠ .select cs b) (h : ∀ d, ok.dst = some d → d ∉ oj.looksAt ops) {K : Act → World → Prop} {a : Act} {w : World} (hh : ok.wp P a w K F) :
    ok.wp P a w (fun a1 w1 => Same ops oj a a1 ∧ K a1 w1) F := by
  unfold Oper.wp at *
  generalize (execOp a.eval ok).run P w = r at *
  cases r with
  | ok n w' =>
    cases n <;> simp only [Oper.upon] at hh ⊢
    case value u => exact ⟨Same.put hs h a u, hh⟩
    case skip => exact ⟨Same.put hs h a undef, hh⟩
    case defer d => exact ⟨(Same.defers a d).trans (Same.put hs h _ undef), hh⟩
    case enter f args =>
      refine Calls.mono hh fun e w'' he => ?_
      cases e with
      | returned u => exact ⟨Same.put hs h a u, he⟩
      | panicked c => exact he
      | outgrown => exact he
    case row row args => exact Rows.mono hh fun u w'' he => ⟨Same.put hs h a u, he⟩
  | halt x w' =>
    cases x <;> simp only [Oper.upon] at hh ⊢
    case panic u => exact hh

theorem wp_put_in {ok : Oper} {d : Option Tmp} {u : Value} (hs : ∀ cs b, ok.op ≠ .select cs b) (h1 : ∀ t, d = some t → t ∉ ok.looksAt ops) (h2 : ∀ t, d = some t → ok.dst ≠ some t) {K : Act → World → Prop} {a : Act} {w : World}
    (hh : ok.wp P a w (fun a1 w1 => K (a1.put d u) w1) F) : ok.wp P (a.put d u) w K F := by
  unfold Oper.wp at *
  rw [execOp_put ok hs a d u h1]
  generalize (execOp a.eval ok).run P w = r at *
  cases r with
  | ok n w' =>
    cases n <;> simp only [Oper.upon] at hh ⊢
    case value v => rw [Act.put_comm a u v h2]; exact hh
    case skip => rw [Act.put_comm a u undef h2]; exact hh
    case defer x => rw [Act.put_defers, Act.put_comm _ u undef h2]; exact hh
    case enter f args =>
      refine Calls.mono hh fun e w'' he => ?_
      cases e with
      | returned v => show K _ _; rw [Act.put_comm a u v h2]; exact he
      | panicked c => exact he
      | outgrown => exact he
    case row row args => exact Rows.mono hh fun v w'' he => by rw [Act.put_comm a u v h2]; exact he
  | halt x w' =>
    cases x <;> simp only [Oper.upon] at hh ⊢
    case panic v => exact hh

theorem wp_put_out {ok : Oper} {d : Option Tmp} {u : Value} (hs : ∀ cs b, ok.op ≠ .select cs b) (h1 : ∀ t, d = some t → t ∉ ok.looksAt ops) (h2 : ∀ t, d = some t → ok.dst ≠ some t) {K : Act → World → Prop} {a : Act} {w : World}
    (hh : ok.wp P (a.put d u) w K F) : ok.wp P a w (fun a1 w1 => K (a1.put d u) w1) F := by
  unfold Oper.wp at *
  rw [execOp_put ok hs a d u h1] at hh
  generalize (execOp a.eval ok).run P w = r at *
  cases r with
  | ok n w' =>
    cases n <;> simp only [Oper.upon] at hh ⊢
    case value v => rw [← Act.put_comm a u v h2]; exact hh
    case skip => rw [← Act.put_comm a u undef h2]; exact hh
    case defer x => rw [← Act.put_comm _ u undef h2, ← Act.put_defers]; exact hh
    case enter f args =>
      refine Calls.mono hh fun e w'' he => ?_
      cases e with
      | returned v => show K _ _; rw [← Act.put_comm a u v h2]; exact he
      | panicked c => exact he
      | outgrown => exact he
    case row row args => exact Rows.mono hh fun v w'' he => by rw [← Act.put_comm a u v h2]; exact he
  | halt x w' =>
    cases x <;> simp only [Oper.upon] at hh ⊢
    case panic v => exact hh

theorem letsOut_F : ¬ LetsOut F := fun ⟨_, _, h⟩ => h
/-- an effect that is shown to come to its end comes to one -/
theorem wp_some {ok : Oper} {K : Act → World → Prop} {a : Act} {w : World} (hh : ok.wp P a w K F) : ∃ a1 w1, K a1 w1 := by
  unfold Oper.wp at hh
  generalize (execOp a.eval ok).run P w = r at *
  cases r with
  | ok n w' =>
    cases n <;> simp only [Oper.upon] at hh
    case value u => exact ⟨_, _, hh⟩
    case skip => exact ⟨_, _, hh⟩
    case defer d => exact ⟨_, _, hh⟩
    case enter f args =>
      obtain ⟨e, w', fr, he, _⟩ := hh []
      cases e with
      | returned u => exact ⟨_, _, he⟩
      | panicked c => exact he.elim
      | outgrown => exact (letsOut_F he).elim
    case row row args =>
      obtain ⟨v, w', he, _⟩ := hh (Frame.enter P 0 #[] .normal) []
      exact ⟨_, _, he⟩
  | halt x w' =>
    cases x <;> simp only [Oper.upon] at hh
    exact hh.elim

/-- a quiet operation, its frame changed where it does not look -/
theorem quiet_same {o : Oper} {a a' : Act} {C : World → Prop} {w : World} {v : Value} (h : execOp a'.eval o = execOp a.eval o) (hh : o.quietAt P a C w v) : o.quietAt P a' C w v := by
  unfold Oper.quietAt at *
  rw [h]
  exact hh

/-- may two operations change places? -/
def commB (ops : Array Oper) (qs : List FuncId) (x y : Oper) : Bool := x.apart ops y && (cls qs x == 0 || cls qs y == 0 || (cls qs x == 1 && cls qs y == 1))

/-- THE EXCHANGE. -/
theorem exchange {k j : Oper} (hc : commB ops qs k j = true) (hk : ∀ cs b, k.op ≠ .select cs b) (hj : ∀ cs b, j.op ≠ .select cs b) {K : Act → World → Prop} {a : Act} {w : World}
    (H : LStep P ops qs k (LStep P ops qs j K) a w) : LStep P ops qs j (LStep P ops qs k K) a w := by
  simp only [commB, Bool.and_eq_true, Bool.or_eq_true, beq_iff_eq] at hc
  obtain ⟨hap, hcls⟩ := hc
  obtain ⟨h1, h2, h3⟩ := Oper.apart_spec hap
  have h2' : ∀ d, j.dst = some d → k.dst ≠ some d := fun d hd e => h2 d e hd
  have pc : ∀ (a : Act) (v u : Value), (a.put k.dst v).put j.dst u = (a.put j.dst u).put k.dst v := fun a v u => Act.put_comm a v u h2
  have sj : ∀ (a : Act) (v : Value), Same ops j a (a.put k.dst v) := fun a v => Same.put hj h1 a v
  have sk : ∀ (a : Act) (u : Value), Same ops k a (a.put j.dst u) := fun a u => Same.put hk h3 a u
  -- k is passed over, or yields one value and leaves the world alone (in the worlds that matter)
  have simpleK : ∀ (v : Value), LStep P ops qs j K (a.put k.dst v) w → (∀ (a' : Act) (w' : World), Same ops k a a' → (cls qs k ≠ 0 → w' = w) → K (a'.put k.dst v) w' → LStep P ops qs k K a' w') → (cls qs k = 0 ∨ Region.wanted k (yielded ops a.tmps) ≠ true ∨ cls qs j ≠ 2) →
      LStep P ops qs j (LStep P ops qs k K) a w := by
    intro v H hback _
    unfold LStep at H ⊢
    rw [(sj a v).2] at H
    split
    · rename_i hw
      rw [if_pos hw] at H
      split
      · rename_i hc0
        rw [if_pos hc0] at H
        obtain ⟨u, hu, hK⟩ := H
        refine ⟨u, fun x => by rw [← (sj a v).1]; exact hu x, ?_⟩
        exact hback _ _ (sk a u) (fun _ => rfl) (by rw [← pc]; exact hK)
      · rename_i hc0
        rw [if_neg hc0] at H
        split
        · rename_i hc1
          rw [if_pos hc1] at H
          obtain ⟨u, hu, hK⟩ := H
          refine ⟨u, fun x hx => quiet_same (sj a v).1.symm (hu x hx), ?_⟩
          exact hback _ _ (sk a u) (fun _ => rfl) (by rw [← pc]; exact hK)
        · rename_i hc1
          rw [if_neg hc1] at H
          intro n
          refine Oper.wp_mono ?_ (wp_same (ops := ops) hk h3 (wp_put_out (ops := ops) hj h1 h2 (H n)))
          rintro a1 w1 ⟨hs, hK⟩
          refine hback a1 w1 hs ?_ hK
          intro hk0
          exfalso
          rcases hcls with (h | h) | ⟨_, h⟩
          · exact hk0 h
          · exact hc0 h
          · exact hc1 h
    · rename_i hw
      rw [if_neg hw] at H
      exact hback _ _ (sk a undef) (fun _ => rfl) (by rw [← pc]; exact H)
  by_cases hw : Region.wanted k (yielded ops a.tmps) = true
  · by_cases hk0 : cls qs k = 0
    · unfold LStep at H
      rw [if_pos hw, if_pos hk0] at H
      obtain ⟨v, hv, HJ⟩ := H
      refine simpleK v HJ ?_ (.inl hk0)
      intro a' w' hs _ hK
      unfold LStep
      rw [hs.2, if_pos hw, if_pos hk0]
      exact ⟨v, fun u => by rw [hs.1]; exact hv u, hK⟩
    · by_cases hk1 : cls qs k = 1
      · unfold LStep at H
        rw [if_pos hw, if_neg hk0, if_pos hk1] at H
        obtain ⟨v, hv, HJ⟩ := H
        refine simpleK v HJ ?_ (.inr (.inr ?_))
        · intro a' w' hs he hK
          obtain rfl := he hk0
          unfold LStep
          rw [hs.2, if_pos hw, if_neg hk0, if_pos hk1]
          exact ⟨v, fun u hu => quiet_same hs.1 (hv u hu), hK⟩
        · rcases hcls with (h | h) | ⟨_, h⟩
          · exact absurd h hk0
          · omega
          · omega
      · -- k is an effect: j yields in whatever world
        have hj0 : cls qs j = 0 := by
          rcases hcls with (h | h) | ⟨h, _⟩
          · exact absurd h hk0
          · exact h
          · exact absurd h hk1
        unfold LStep at H
        rw [if_pos hw, if_neg hk0, if_neg hk1] at H
        have HS := fun n => wp_same (ops := ops) hj h1 (H n)
        obtain ⟨a1, w1, hs1, hK1⟩ := wp_some (HS 0)
        unfold LStep
        by_cases hwj : Region.wanted j (yielded ops a.tmps) = true
        · rw [if_pos hwj, if_pos hj0]
          rw [hs1.2, if_pos hwj, if_pos hj0] at hK1
          obtain ⟨u, hu, _⟩ := hK1
          refine ⟨u, fun x => by rw [← hs1.1]; exact hu x, ?_⟩
          rw [(sk a u).2, if_pos hw, if_neg hk0, if_neg hk1]
          intro n
          refine wp_put_in (ops := ops) hk h3 h2' (Oper.wp_mono ?_ (HS n))
          rintro a2 w2 ⟨hs2, hK2⟩
          rw [hs2.2, if_pos hwj, if_pos hj0] at hK2
          obtain ⟨u', hu', hK2⟩ := hK2
          have e1 := hu' w
          have e2 := hu w
          rw [hs2.1] at e1
          rw [hs1.1, e1] at e2
          injection e2 with e2
          injection e2 with e2
          rw [← e2]
          exact hK2
        · rw [if_neg hwj]
          rw [(sk a undef).2, if_pos hw, if_neg hk0, if_neg hk1]
          intro n
          refine wp_put_in (ops := ops) hk h3 h2' (Oper.wp_mono ?_ (HS n))
          rintro a2 w2 ⟨hs2, hK2⟩
          rw [hs2.2, if_neg hwj] at hK2
          exact hK2
  · unfold LStep at H
    rw [if_neg hw] at H
    refine simpleK undef H ?_ (.inr (.inl hw))
    intro a' w' hs _ hK
    unfold LStep
    rw [hs.2, if_neg hw]
    exact hK

/-- operation number i -/
def LOp (P : Program) (ops : Array Oper) (qs : List FuncId) (i : Nat) (K : Act → World → Prop) (a : Act) (w : World) : Prop := match ops[i]? with
  | none => K a w
  | some o => LStep P ops qs o K a w
theorem LOp.mono {i : Nat} {K K' : Act → World → Prop} {a : Act} {w : World} (h : ∀ a w, K a w → K' a w) (hh : LOp P ops qs i K a w) : LOp P ops qs i K' a w := by
  unfold LOp at *
  split
  · rename_i ho
    rw [ho] at hh
    exact h _ _ hh
  · rename_i o ho
    rw [ho] at hh
    exact LStep.mono h hh

/-- whatever order is picked from here on -/
def LAny (P : Program) (md : Region.Mode) (ops : Array Oper) (qs : List FuncId) (K : Act → World → Prop) : Nat → Array Bool → Act → World → Prop
  | 0, listed, a, w => Region.ready md ops listed = [] ∧ K a w
  | f + 1, listed, a, w => (Region.ready md ops listed = [] → K a w) ∧ ∀ i ∈ Region.ready md ops listed, LOp P ops qs i (LAny P md ops qs K f (listed.setIfInBounds i true)) a w

/-- j waits for k, directly or through others -/
inductive Waits (md : Region.Mode) (ops : Array Oper) : Nat → Nat → Prop
  | one {j k : Nat} {o : Oper} {e : Edge} : ops[j]? = some o → e ∈ o.after → Region.binds md e = true → e.on = k → Waits md ops j k
  | more {j k : Nat} {o : Oper} {e : Edge} : ops[j]? = some o → e ∈ o.after → Region.binds md e = true → Waits md ops e.on k → Waits md ops j k
def waitsB (md : Region.Mode) (ops : Array Oper) : Nat → Nat → Nat → Bool
  | 0, _, _ => false
  | f + 1, j, k => match ops[j]? with
    | none => false
    | some o => o.after.any fun e => Region.binds md e && (e.on == k || (Nat.blt k e.on && waitsB md ops f e.on k))
theorem waits_of {f j k : Nat} (h : waitsB md ops f j k = true) : Waits md ops j k := by
  induction f generalizing j with
  | zero => simp [waitsB] at h
  | succ f ih =>
    unfold waitsB at h
    split at h
    · cases h
    · rename_i o ho
      obtain ⟨e, he, hb⟩ := Array.any_eq_true'.1 h
      simp only [Bool.and_eq_true, Bool.or_eq_true, beq_iff_eq] at hb
      rcases hb.2 with h1 | ⟨_, h1⟩
      · exact .one ho he hb.1 h1
      · exact .more ho he hb.1 (ih h1)
/-- what is listed has all that it waits for listed -/
def Closed (md : Region.Mode) (ops : Array Oper) (listed : Array Bool) : Prop := ∀ j o, ops[j]? = some o → listed.getD j false = true → ∀ e ∈ o.after, Region.binds md e = true → listed.getD e.on false = true
theorem Closed.waits {listed : Array Bool} (hcl : Closed md ops listed) {j k : Nat} (h : Waits md ops j k) : listed.getD j false = true → listed.getD k false = true := by
  induction h with
  | one ho he hb hk => intro hl; rw [← hk]; exact hcl _ _ ho hl _ he hb
  | more ho he hb _ ih => intro hl; exact ih (hcl _ _ ho hl _ he hb)
theorem listed_both {listed : Array Bool} {i : Nat} (h : listed.getD i true = false) : listed.getD i false = false := by
  rcases Nat.lt_or_ge i listed.size with h' | h'
  · simp [h'] at h ⊢; exact h
  · simp [Array.getElem?_eq_none h'] at h
theorem Closed.ready {listed : Array Bool} (hcl : Closed md ops listed) {j k : Nat} (hj : j ∈ Region.ready md ops listed) (hk : k ∈ Region.ready md ops listed) : ¬ Waits md ops j k := by
  intro h
  obtain ⟨_, o, ho, hall⟩ := mem_ready.1 hj
  have hk0 := listed_both (mem_ready.1 hk).1
  have : listed.getD k false = true := by
    cases h with
    | one ho' he hb hk' =>
      obtain rfl := Option.some.inj (ho.symm.trans ho')
      rw [← hk']
      exact hall _ he hb
    | more ho' he hb hr =>
      obtain rfl := Option.some.inj (ho.symm.trans ho')
      exact hcl.waits hr (hall _ he hb)
  rw [hk0] at this
  cases this
theorem Closed.set {listed : Array Bool} (hcl : Closed md ops listed) {j : Nat} (hj : j ∈ Region.ready md ops listed) : Closed md ops (listed.setIfInBounds j true) := by
  intro i o ho hl e he hb
  by_cases hij : j = i
  · subst hij
    obtain ⟨_, o', ho', hall⟩ := mem_ready.1 hj
    obtain rfl := Option.some.inj (ho.symm.trans ho')
    exact getD_set_true (hall e he hb)
  · rw [getD_set_ne false hij] at hl
    exact getD_set_true (hcl i o ho hl e he hb)

/-- number k may be taken first, if whatever else might come up ahead of it may change places with it -/
theorem first {K : Act → World → Prop} {k : Nat} {ok : Oper} (hk : ops[k]? = some ok) (hsel : ∀ (j : Nat) (o : Oper) cs b, ops[j]? = some o → o.op ≠ .select cs b)
    (hcomm : ∀ (j : Nat) (oj : Oper), ops[j]? = some oj → k < j → ¬ Waits md ops j k → commB ops qs ok oj = true) :
    ∀ (fuel : Nat) (listed : Array Bool) (a : Act) (w : World), Closed md ops listed → (∀ i, i < k → listed.getD i false = true) → k ∈ Region.ready md ops listed →
      LOp P ops qs k (LAny P md ops qs K fuel (listed.setIfInBounds k true)) a w → LAny P md ops qs K (fuel + 1) listed a w := by
  intro fuel
  induction fuel with
  | zero =>
    intro listed a w hcl hlow hr H
    refine ⟨fun h => (by rw [h] at hr; cases hr), fun j hj => ?_⟩
    by_cases hjk : j = k
    · subst hjk; exact H
    · exfalso
      have hj' := ready_mono hj hjk
      -- behind k nothing is ready any more
      have hno : ∀ {o : Oper} {a : Act} {w : World}, LStep P ops qs o (LAny P md ops qs K 0 (listed.setIfInBounds k true)) a w → Region.ready md ops (listed.setIfInBounds k true) = [] := by
        intro o a w h
        unfold LStep at h
        split at h
        · split at h
          · obtain ⟨_, _, h⟩ := h; exact h.1
          · split at h
            · obtain ⟨_, _, h⟩ := h; exact h.1
            · obtain ⟨_, _, h⟩ := wp_some (h 0); exact h.1
        · exact h.1
      have hn : Region.ready md ops (listed.setIfInBounds k true) = [] := by
        unfold LOp at H
        rw [hk] at H
        exact hno H
      rw [hn] at hj'
      cases hj'
  | succ fuel ih =>
    intro listed a w hcl hlow hr H
    refine ⟨fun h => (by rw [h] at hr; cases hr), fun j hj => ?_⟩
    by_cases hjk : j = k
    · subst hjk; exact H
    · obtain ⟨hjun, oj, hoj, _⟩ := mem_ready.1 hj
      have hkj : k < j := by
        rcases Nat.lt_or_ge k j with h | h
        · exact h
        · have h1 := hlow j (by omega)
          rw [listed_both hjun] at h1
          cases h1
      have hc := hcomm j oj hoj hkj (hcl.ready hj hr)
      have H2 : LStep P ops qs ok (LStep P ops qs oj (LAny P md ops qs K fuel ((listed.setIfInBounds k true).setIfInBounds j true))) a w := by
        unfold LOp at H
        rw [hk] at H
        refine LStep.mono (fun a' w' h => ?_) H
        have := h.2 j (ready_mono hj hjk)
        unfold LOp at this
        rw [hoj] at this
        exact this
      have H3 := exchange hc (fun cs b => hsel k ok cs b hk) (fun cs b => hsel j oj cs b hoj) H2
      unfold LOp
      rw [hoj]
      refine LStep.mono (fun a' w' h => ?_) H3
      refine ih (listed.setIfInBounds j true) a' w' (hcl.set hj) (fun i hi => getD_set_true (hlow i hi)) (ready_mono hr (Ne.symm hjk)) ?_
      rw [Array.setIfInBounds_comm _ _ hjk]
      unfold LOp
      rw [hk]
      exact h

/-- THE WALK: the operations in the order of the text -/
def Run (P : Program) (ops : Array Oper) (qs : List FuncId) (K : Act → World → Prop) : List Oper → Act → World → Prop
  | [], a, w => ∀ n, K a (w.drewN n)
  | o :: rest, a, w => LStep P ops qs o (Run P ops qs K rest) a w

/-- the closed look at a region -/
def okB (md : Region.Mode) (ops : Array Oper) (qs : List FuncId) : Bool :=
  Region.noSelect ops && (List.range ops.size).all fun k => match ops[k]? with
    | none => false
    | some ok => (ok.after.all fun e => !Region.binds md e || Nat.blt e.on k) && (List.range ops.size).all fun j => Nat.ble j k || match ops[j]? with
      | none => false
      | some oj => commB ops qs ok oj || waitsB md ops ops.size j k

/-- the first k are listed -/
def upTo (n k : Nat) : Array Bool := ((List.replicate k true) ++ (List.replicate (n - k) false)).toArray
theorem upTo_get {n k i : Nat} (hk : k ≤ n) (d : Bool) : (upTo n k).getD i d = if i < k then true else if i < n then false else d := by
  unfold upTo
  by_cases h1 : i < k
  · simp [h1, List.getElem?_append]
  · by_cases h2 : i < n
    · have h3 : i - k < n - k := by omega
      simp [h1, h2, h3, List.getElem?_append]
    · have h3 : ¬ i - k < n - k := by omega
      simp [h1, h2, h3, List.getElem?_append]
theorem upTo_set {n k : Nat} (hk : k < n) : (upTo n k).setIfInBounds k true = upTo n (k + 1) := by
  apply Array.ext_getElem?
  intro i
  have hs : (upTo n k).size = n := by simp [upTo]; omega
  have hs' : (upTo n (k + 1)).size = n := by simp [upTo]; omega
  by_cases hi : i < n
  · have e1 := upTo_get (n := n) (k := k) (i := i) (by omega) false
    have e2 := upTo_get (n := n) (k := k + 1) (i := i) (by omega) false
    by_cases hik : k = i
    · subst hik
      rw [if_pos (by omega)] at e2
      rw [Array.getElem?_setIfInBounds_self_of_lt (by omega)]
      rw [Array.getElem?_eq_getElem (by omega)]
      simp only [Array.getD_eq_getD_getElem?, Array.getElem?_eq_getElem (show k < (upTo n (k + 1)).size by omega), Option.getD_some] at e2
      rw [e2]
    · rw [Array.getElem?_setIfInBounds_ne hik, Array.getElem?_eq_getElem (by omega), Array.getElem?_eq_getElem (by omega)]
      simp only [Array.getD_eq_getD_getElem?, Array.getElem?_eq_getElem (show i < (upTo n (k + 1)).size by omega), Array.getElem?_eq_getElem (show i < (upTo n k).size by omega), Option.getD_some] at e1 e2
      rw [e1, e2]
      have h1 : (i < k + 1) ↔ (i < k) := by omega
      simp only [h1]
  · rw [Array.getElem?_eq_none (by simp; omega), Array.getElem?_eq_none (by omega)]

theorem upTo_zero (n : Nat) : upTo n 0 = Array.replicate n false := by simp [upTo]
theorem okB_spec (h : okB md ops qs = true) {k : Nat} {ok : Oper} (hk : ops[k]? = some ok) :
    (∀ e ∈ ok.after, Region.binds md e = true → e.on < k) ∧ ∀ (j : Nat) (oj : Oper), ops[j]? = some oj → k < j → ¬ Waits md ops j k → commB ops qs ok oj = true := by
  simp only [okB, Bool.and_eq_true, List.all_eq_true, List.mem_range] at h
  have hkl : k < ops.size := (Array.getElem?_eq_some_iff.1 hk).1
  have h1 := h.2 k hkl
  rw [hk] at h1
  simp only [Bool.and_eq_true, List.all_eq_true, List.mem_range] at h1
  refine ⟨fun e he hb => ?_, fun j oj hj hkj hw => ?_⟩
  · have h2 := Array.all_eq_true_iff_forall_mem.1 h1.1 e he
    simp only [hb, Bool.not_true, Bool.false_or] at h2
    exact Nat.blt_eq.mp h2
  · have h2 := h1.2 j (Array.getElem?_eq_some_iff.1 hj).1
    rw [hj] at h2
    simp only [Bool.or_eq_true] at h2
    rcases h2 with h2 | h2 | h2
    · have := Nat.ble_eq.mp h2; omega
    · exact h2
    · exact absurd (waits_of h2) hw
theorem closed_upTo (h : okB md ops qs = true) {k : Nat} (hk : k ≤ ops.size) : Closed md ops (upTo ops.size k) := by
  intro j o ho hl e he hb
  have hj : j < ops.size := (Array.getElem?_eq_some_iff.1 ho).1
  have h1 := (okB_spec h ho).1 e he hb
  rw [upTo_get hk] at hl ⊢
  by_cases hjk : j < k
  · rw [if_pos (by omega)]
  · rw [if_neg hjk, if_pos hj] at hl
    cases hl
theorem any_of_run {K : Act → World → Prop} (h : okB md ops qs = true) : ∀ (l : List Oper) (k : Nat) (a : Act) (w : World), k + l.length = ops.size → (∀ j, l[j]? = ops[k + j]?) →
    Run P ops qs K l a w → LAny P md ops qs (fun a w => ∀ n, K a (w.drewN n)) l.length (upTo ops.size k) a w
  | [], k, a, w, hk, _, hr => by
    refine ⟨?_, hr⟩
    apply List.eq_nil_iff_forall_not_mem.2
    intro j hj
    obtain ⟨h0, o, ho, _⟩ := mem_ready.1 hj
    have hj' : j < ops.size := (Array.getElem?_eq_some_iff.1 ho).1
    rw [upTo_get (by omega), if_pos (by simp at hk; omega)] at h0
    cases h0
  | o :: l, k, a, w, hk, hl, hr => by
    have hk' : k < ops.size := by simp at hk; omega
    have ho : ops[k]? = some o := by simpa using (hl 0).symm
    refine first ho (Region.noSelect_spec (by simp only [okB, Bool.and_eq_true] at h; exact h.1)) (okB_spec h ho).2 l.length _ a w (closed_upTo h (by omega)) (fun i hi => by rw [upTo_get (by omega), if_pos hi]) ?_ ?_
    · refine mem_ready.2 ⟨by rw [upTo_get (by omega), if_neg (by omega), if_pos hk'], o, ho, fun e he hb => ?_⟩
      rw [upTo_get (by omega), if_pos ((okB_spec h ho).1 e he hb)]
    · rw [upTo_set hk']
      unfold LOp
      rw [ho]
      exact LStep.mono (fun a' w' h' => any_of_run h l (k + 1) a' w' (by simp at hk; omega) (fun j => by have := hl (j + 1); simpa [Nat.add_assoc, Nat.add_comm 1 j] using this) h') hr

/-- normal ends alone -/
def OnlyN (Q : Exit → Act → World → Prop) : Exit → Act → World → Prop
  | .normal, a, w => Q .normal a w
  | _, _, _ => False
theorem OnlyN.imp {Q : Exit → Act → World → Prop} : ∀ (e : Exit) (a : Act) (w : World), OnlyN Q e a w → Q e a w := fun e a w h => by
  cases e <;> first | exact h | exact (h : False).elim
theorem wp_of_F {o : Oper} {Q : Exit → Act → World → Prop} {K : Act → World → Prop} {a : Act} {w : World} (hh : o.wp P a w K F) : o.wp P a w K Q := by
  unfold Oper.wp at *
  generalize (execOp a.eval o).run P w = r at *
  cases r with
  | ok n w' =>
    cases n <;> simp only [Oper.upon] at hh ⊢
    case value u => exact hh
    case skip => exact hh
    case defer d => exact hh
    case enter f args =>
      refine Calls.mono hh fun e w'' he => ?_
      cases e with
      | returned u => exact he
      | panicked c => exact he.elim
      | outgrown => exact (letsOut_F he).elim
    case row row args => exact hh
  | halt x w' =>
    cases x <;> simp only [Oper.upon] at hh ⊢
    exact hh.elim
/-- what holds of every order, of any world that is w but for draws -/
theorem any_sound {K : Act → World → Prop} {Q : Exit → Act → World → Prop} (hQ : ∀ a w, K a w → ∀ u, CW w u → Q .normal a u) :
    ∀ (f : Nat) (listed : Array Bool) (a : Act) (w u : World), CW w u → LAny P md ops qs K f listed a w → wpAny P md ops Q f listed a u
  | 0, _, _, _, _, hu, h => ⟨h.1, hQ _ _ h.2 _ hu⟩
  | f + 1, listed, a, w, u, hu, h => by
    refine ⟨fun h0 => hQ _ _ (h.1 h0) _ hu, fun i hi => ?_⟩
    have h1 := h.2 i hi
    unfold LOp at h1
    unfold wpOp
    split
    · rename_i ho
      rw [ho] at h1
      exact any_sound hQ f _ _ _ _ hu h1
    · rename_i o ho
      rw [ho] at h1
      dsimp only at h1
      unfold LStep at h1
      split
      · rename_i hw
        rw [if_pos hw] at h1
        left
        split at h1
        · obtain ⟨v, h2, h3⟩ := h1
          unfold Oper.wp
          rw [h2 u]
          exact any_sound hQ f _ _ _ _ hu h3
        · split at h1
          · exact Oper.wp_of_quiet (C := CW w) hu (fun a' u' hu' hk => any_sound hQ f _ _ _ _ hu' hk) h1
          · obtain ⟨n, rfl⟩ := hu
            exact wp_of_F (Oper.wp_mono (fun a' w' hk => any_sound hQ f _ _ _ _ (CW.refl w') hk) (h1 n))
      · rename_i hw
        rw [if_neg hw] at h1
        exact any_sound hQ f _ _ _ _ hu h1

/-- A REGION THAT DRAWS ITS ORDER, WALKED IN THE ORDER OF THE TEXT -/
theorem wp_region_lex {id : Nat} {Q : Exit → Act → World → Prop} {a : Act} {w : World} {l : List Oper} (qs : List FuncId) (hm : P.follows .mixedOrders = true) (hB : okB .any l.toArray qs = true)
    (h : Run P l.toArray qs (fun a' w' => Q .normal a' w') l a w.drew) : (Code.region id l.toArray true).wp P Q a w := by
  refine wp_region_any hm ?_
  have H := any_of_run hB l 0 a w.drew (by simp) (fun j => by simp) h
  rw [upTo_zero] at H
  have H2 := any_sound (Q := Q) (fun a w hk u hu => by obtain ⟨n, rfl⟩ := hu; exact hk n) _ _ _ _ _ (CW.refl _) H
  simpa using H2

/-! ### THE STEPS OF THE WALK -/
theorem run_nil {K : Act → World → Prop} {a : Act} {w : World} (h : ∀ n, K a (w.drewN n)) : Run P ops qs K [] a w := h
theorem run_free {K : Act → World → Prop} {o : Oper} {rest : List Oper} {a : Act} {w : World} {v : Value} (hc : cls qs o = 0) (hw : Region.wanted o (yielded ops a.tmps) = true)
    (hv : ∀ u, (execOp a.eval o).run P u = .ok (.value v) u) (h : Run P ops qs K rest (a.put o.dst v) w) : Run P ops qs K (o :: rest) a w := by
  show LStep P ops qs o (Run P ops qs K rest) a w
  unfold LStep
  rw [if_pos hw, if_pos hc]
  exact ⟨v, hv, h⟩
theorem run_skip {K : Act → World → Prop} {o : Oper} {rest : List Oper} {a : Act} {w : World} (hw : Region.wanted o (yielded ops a.tmps) = false)
    (h : Run P ops qs K rest (a.put o.dst undef) w) : Run P ops qs K (o :: rest) a w := by
  show LStep P ops qs o (Run P ops qs K rest) a w
  unfold LStep
  rw [if_neg (by rw [hw]; simp)]
  exact h
theorem run_load {K : Act → World → Prop} {o : Oper} {rest : List Oper} {a : Act} {w : World} {v : Value} (hc : cls qs o = 1) (hw : Region.wanted o (yielded ops a.tmps) = true)
    (hv : ∀ n, (execOp a.eval o).run P (w.drewN n) = .ok (.value v) (w.drewN n)) (h : Run P ops qs K rest (a.put o.dst v) w) : Run P ops qs K (o :: rest) a w := by
  show LStep P ops qs o (Run P ops qs K rest) a w
  unfold LStep
  rw [if_pos hw, if_neg (by rw [hc]; decide), if_pos hc]
  refine ⟨v, fun u hu => ?_, h⟩
  obtain ⟨n, rfl⟩ := hu
  unfold Oper.quietAt
  rw [hv n]
  exact ⟨rfl, rfl⟩
theorem run_call {K : Act → World → Prop} {o : Oper} {rest : List Oper} {a : Act} {w : World} {v : Value} {f : FuncId} {args : Array Value} (hc : cls qs o = 1) (hw : Region.wanted o (yielded ops a.tmps) = true)
    (hv : ∀ n, (execOp a.eval o).run P (w.drewN n) = .ok (.enter f args) (w.drewN n)) (hcall : ∀ n, Calls P f args (w.drewN n) fun e w' => e = .returned v ∧ ∃ k, w' = (w.drewN n).drewN k)
    (h : Run P ops qs K rest (a.put o.dst v) w) : Run P ops qs K (o :: rest) a w := by
  show LStep P ops qs o (Run P ops qs K rest) a w
  unfold LStep
  rw [if_pos hw, if_neg (by rw [hc]; decide), if_pos hc]
  refine ⟨v, fun u hu => ?_, h⟩
  obtain ⟨n, rfl⟩ := hu
  unfold Oper.quietAt
  rw [hv n]
  refine ⟨rfl, (hcall n).mono fun e w' he => ?_⟩
  obtain ⟨he, k, rfl⟩ := he
  exact ⟨he, n + k, by simp⟩
theorem run_eff {K : Act → World → Prop} {o : Oper} {rest : List Oper} {a : Act} {w : World} (hc : cls qs o = 2) (hw : Region.wanted o (yielded ops a.tmps) = true)
    (h : ∀ (n : Nat) (K' : Act → World → Prop), (∀ a' w', Run P ops qs K rest a' w' → K' a' w') → o.wp P a (w.drewN n) K' F) : Run P ops qs K (o :: rest) a w := by
  show LStep P ops qs o (Run P ops qs K rest) a w
  unfold LStep
  rw [if_pos hw, if_neg (by rw [hc]; decide), if_neg (by rw [hc]; decide)]
  exact fun n => h n _ (fun _ _ h => h)
end
end Go.Proofs.YtjfgfoeenajneaaGreatDoor.Lex
namespace Go.Proofs.YtjfgfoeenajneaaGreatDoor.Lex3
open Go Go.Proofs.YtjfgfoeenajneaaGreatDoor.Lex

/-- 0: yields its value in whatever world · 1: calls a function that only reads · 2: anything · 4: loads -/
def cls (qs : List FuncId) (o : Oper) : Nat := match o.op with
  | .move _ | .assign _ | .pick .. | .nilCheck _ | .binOp .. | .unOp .. | .convert .. | .fieldAddr .. | .indexAddr .. | .slice .. | .extract .. | .field .. | .index .. | .build .. => 0
  | .load .. => 4
  | .call c => match c.callee with
    | .builtin .len | .builtin .cap | .builtin .min | .builtin .max => 0
    | .value (.func f) => if qs.contains f then 1 else 2
    | _ => 2
  | _ => 2

section
variable {P : Program} {ops : Array Oper} {qs : List FuncId} {md : Region.Mode} {I : World → Prop}

/-- one operation, by its class -/
def LStep (P : Program) (ops : Array Oper) (qs : List FuncId) (I : World → Prop) (o : Oper) (K : Act → World → Prop) (a : Act) (w : World) : Prop :=
  if Region.wanted o (yielded ops a.tmps) = true then
    (if cls qs o = 0 then ∃ v, (∀ u, (execOp a.eval o).run P u = .ok (.value v) u) ∧ K (a.put o.dst v) w
     else if cls qs o = 1 then o.quiet P a (CW w) (fun a' => K a' w)
     else if cls qs o = 4 then ∃ v, (∀ u, I u → (execOp a.eval o).run P u = .ok (.value v) u) ∧ K (a.put o.dst v) w
     else ∀ n, o.wp P a (w.drewN n) (fun a' w' => I w' ∧ K a' w') F)
  else K (a.put o.dst undef) w

theorem LStep.mono {o : Oper} {K K' : Act → World → Prop} {a : Act} {w : World} (h : ∀ a w, K a w → K' a w) (hh : LStep P ops qs I o K a w) : LStep P ops qs I o K' a w := by
  unfold LStep at *
  split
  · rename_i hw
    rw [if_pos hw] at hh
    split
    · rename_i hc
      rw [if_pos hc] at hh
      obtain ⟨v, h1, h2⟩ := hh
      exact ⟨v, h1, h _ _ h2⟩
    · rename_i hc
      rw [if_neg hc] at hh
      split
      · rename_i hc1
        rw [if_pos hc1] at hh
        exact Oper.quiet_mono (fun a' => h a' w) hh
      · rename_i hc1
        rw [if_neg hc1] at hh
        split
        · rename_i hc4
          rw [if_pos hc4] at hh
          obtain ⟨v, h1, h2⟩ := hh
          exact ⟨v, h1, h _ _ h2⟩
        · rename_i hc4
          rw [if_neg hc4] at hh
          exact fun n => Oper.wp_mono (fun a' w' hk => ⟨hk.1, h _ _ hk.2⟩) (hh n)
  · rename_i hw
    rw [if_neg hw] at hh
    exact h _ _ hh

/-- may two operations change places? (x stands ahead of y in the text) -/
def commB (ops : Array Oper) (qs : List FuncId) (x y : Oper) : Bool := x.apart ops y && (cls qs x == 0 || cls qs x == 4 || cls qs y == 0 || cls qs y == 4 || (cls qs x == 1 && cls qs y == 1))

/-- THE EXCHANGE. -/
theorem exchange {k j : Oper} (hc : commB ops qs k j = true) (hk : ∀ cs b, k.op ≠ .select cs b) (hj : ∀ cs b, j.op ≠ .select cs b) {K : Act → World → Prop} {a : Act} {w : World}
    (H : LStep P ops qs I k (LStep P ops qs I j K) a w) : LStep P ops qs I j (LStep P ops qs I k K) a w := by
  simp only [commB, Bool.and_eq_true, Bool.or_eq_true, beq_iff_eq] at hc
  obtain ⟨hap, hcls⟩ := hc
  obtain ⟨h1, h2, h3⟩ := Oper.apart_spec hap
  have h2' : ∀ d, j.dst = some d → k.dst ≠ some d := fun d hd e => h2 d e hd
  have pc : ∀ (a : Act) (v u : Value), (a.put k.dst v).put j.dst u = (a.put j.dst u).put k.dst v := fun a v u => Act.put_comm a v u h2
  have sj : ∀ (a : Act) (v : Value), Same ops j a (a.put k.dst v) := fun a v => Same.put hj h1 a v
  have sk : ∀ (a : Act) (u : Value), Same ops k a (a.put j.dst u) := fun a u => Same.put hk h3 a u
  -- k is passed over, or yields one value in the worlds that matter
  have simpleK : ∀ (v : Value), LStep P ops qs I j K (a.put k.dst v) w → (∀ (a' : Act) (w' : World), Same ops k a a' → (Region.wanted k (yielded ops a.tmps) = true → cls qs k = 1 → w' = w) → K (a'.put k.dst v) w' → LStep P ops qs I k K a' w') → LStep P ops qs I j (LStep P ops qs I k K) a w := by
    intro v H hback
    unfold LStep at H ⊢
    rw [(sj a v).2] at H
    split
    · rename_i hw
      rw [if_pos hw] at H
      split
      · rename_i hc0
        rw [if_pos hc0] at H
        obtain ⟨u, hu, hK⟩ := H
        refine ⟨u, fun x => by rw [← (sj a v).1]; exact hu x, ?_⟩
        exact hback _ _ (sk a u) (fun _ _ => rfl) (by rw [← pc]; exact hK)
      · rename_i hc0
        rw [if_neg hc0] at H
        split
        · rename_i hc1
          rw [if_pos hc1] at H
          obtain ⟨u, hu, hK⟩ := H
          refine ⟨u, fun x hx => quiet_same (sj a v).1.symm (hu x hx), ?_⟩
          exact hback _ _ (sk a u) (fun _ _ => rfl) (by rw [← pc]; exact hK)
        · rename_i hc1
          rw [if_neg hc1] at H
          split
          · rename_i hc4
            rw [if_pos hc4] at H
            obtain ⟨u, hu, hK⟩ := H
            refine ⟨u, fun x hx => by rw [← (sj a v).1]; exact hu x hx, ?_⟩
            exact hback _ _ (sk a u) (fun _ _ => rfl) (by rw [← pc]; exact hK)
          · rename_i hc4
            rw [if_neg hc4] at H
            intro n
            refine Oper.wp_mono ?_ (wp_same (ops := ops) hk h3 (wp_put_out (ops := ops) hj h1 h2 (H n)))
            rintro a1 w1 ⟨hs, hi, hK⟩
            exact ⟨hi, hback a1 w1 hs (fun _ h => by exfalso; rcases hcls with (((h' | h') | h') | h') | ⟨_, h'⟩ <;> first | omega | exact hc0 h' | exact hc1 h' | exact hc4 h') hK⟩
    · rename_i hw
      rw [if_neg hw] at H
      exact hback _ _ (sk a undef) (fun _ _ => rfl) (by rw [← pc]; exact H)
  by_cases hw : Region.wanted k (yielded ops a.tmps) = true
  · by_cases hk0 : cls qs k = 0
    · unfold LStep at H
      rw [if_pos hw, if_pos hk0] at H
      obtain ⟨v, hv, HJ⟩ := H
      refine simpleK v HJ ?_
      intro a' w' hs _ hK
      unfold LStep
      rw [hs.2, if_pos hw, if_pos hk0]
      exact ⟨v, fun u => by rw [hs.1]; exact hv u, hK⟩
    · by_cases hk1 : cls qs k = 1
      · unfold LStep at H
        rw [if_pos hw, if_neg hk0, if_pos hk1] at H
        obtain ⟨v, hv, HJ⟩ := H
        refine simpleK v HJ ?_
        intro a' w' hs he hK
        obtain rfl := he hw hk1
        unfold LStep
        rw [hs.2, if_pos hw, if_neg hk0, if_pos hk1]
        exact ⟨v, fun u hu => quiet_same hs.1 (hv u hu), hK⟩
      · by_cases hk4 : cls qs k = 4
        · unfold LStep at H
          rw [if_pos hw, if_neg hk0, if_neg hk1, if_pos hk4] at H
          obtain ⟨v, hv, HJ⟩ := H
          refine simpleK v HJ ?_
          intro a' w' hs _ hK
          unfold LStep
          rw [hs.2, if_pos hw, if_neg hk0, if_neg hk1, if_pos hk4]
          exact ⟨v, fun u hu => by rw [hs.1]; exact hv u hu, hK⟩
        · -- k is an effect: j yields one value
          unfold LStep at H
          rw [if_pos hw, if_neg hk0, if_neg hk1, if_neg hk4] at H
          have HS := fun n => wp_same (ops := ops) hj h1 (H n)
          obtain ⟨a1, w1, hs1, hi1, hK1⟩ := wp_some (HS 0)
          unfold LStep
          by_cases hwj : Region.wanted j (yielded ops a.tmps) = true
          · rw [if_pos hwj]
            rw [hs1.2, if_pos hwj] at hK1
            by_cases hj0 : cls qs j = 0
            · rw [if_pos hj0] at hK1 ⊢
              obtain ⟨u, hu, _⟩ := hK1
              refine ⟨u, fun x => by rw [← hs1.1]; exact hu x, ?_⟩
              rw [(sk a u).2, if_pos hw, if_neg hk0, if_neg hk1, if_neg hk4]
              intro n
              refine wp_put_in (ops := ops) hk h3 h2' (Oper.wp_mono ?_ (HS n))
              rintro a2 w2 ⟨hs2, hi2, hK2⟩
              rw [hs2.2, if_pos hwj, if_pos hj0] at hK2
              obtain ⟨u', hu', hK2⟩ := hK2
              have e1 := hu' w
              have e2 := hu w
              rw [hs2.1] at e1
              rw [hs1.1, e1] at e2
              injection e2 with e2
              injection e2 with e2
              rw [← e2]
              exact ⟨hi2, hK2⟩
            · have hj4 : cls qs j = 4 := by omega
              have hj1 : ¬ cls qs j = 1 := by omega
              rw [if_neg hj0, if_neg hj1, if_pos hj4] at hK1 ⊢
              obtain ⟨u, hu, _⟩ := hK1
              refine ⟨u, fun x hx => by rw [← hs1.1]; exact hu x hx, ?_⟩
              rw [(sk a u).2, if_pos hw, if_neg hk0, if_neg hk1, if_neg hk4]
              intro n
              refine wp_put_in (ops := ops) hk h3 h2' (Oper.wp_mono ?_ (HS n))
              rintro a2 w2 ⟨hs2, hi2, hK2⟩
              rw [hs2.2, if_pos hwj, if_neg hj0, if_neg hj1, if_pos hj4] at hK2
              obtain ⟨u', hu', hK2⟩ := hK2
              have e1 := hu' w1 hi1
              have e2 := hu w1 hi1
              rw [hs2.1] at e1
              rw [hs1.1, e1] at e2
              injection e2 with e2
              injection e2 with e2
              rw [← e2]
              exact ⟨hi2, hK2⟩
          · rw [if_neg hwj]
            rw [(sk a undef).2, if_pos hw, if_neg hk0, if_neg hk1, if_neg hk4]
            intro n
            refine wp_put_in (ops := ops) hk h3 h2' (Oper.wp_mono ?_ (HS n))
            rintro a2 w2 ⟨hs2, hi2, hK2⟩
            rw [hs2.2, if_neg hwj] at hK2
            exact ⟨hi2, hK2⟩
  · unfold LStep at H
    rw [if_neg hw] at H
    refine simpleK undef H ?_
    intro a' w' hs _ hK
    unfold LStep
    rw [hs.2, if_neg hw]
    exact hK

/-- operation number i -/
def LOp (P : Program) (ops : Array Oper) (qs : List FuncId) (I : World → Prop) (i : Nat) (K : Act → World → Prop) (a : Act) (w : World) : Prop := match ops[i]? with
  | none => K a w
  | some o => LStep P ops qs I o K a w
theorem LOp.mono {i : Nat} {K K' : Act → World → Prop} {a : Act} {w : World} (h : ∀ a w, K a w → K' a w) (hh : LOp P ops qs I i K a w) : LOp P ops qs I i K' a w := by
  unfold LOp at *
  split
  · rename_i ho
    rw [ho] at hh
    exact h _ _ hh
  · rename_i o ho
    rw [ho] at hh
    exact LStep.mono h hh

/-- whatever order is picked from here on -/
def LAny (P : Program) (md : Region.Mode) (ops : Array Oper) (qs : List FuncId) (I : World → Prop) (K : Act → World → Prop) : Nat → Array Bool → Act → World → Prop
  | 0, listed, a, w => Region.ready md ops listed = [] ∧ K a w
  | f + 1, listed, a, w => (Region.ready md ops listed = [] → K a w) ∧ ∀ i ∈ Region.ready md ops listed, LOp P ops qs I i (LAny P md ops qs I K f (listed.setIfInBounds i true)) a w

/-- number k may be taken first, if whatever else might come up ahead of it may change places with it -/
theorem first {K : Act → World → Prop} {k : Nat} {ok : Oper} (hk : ops[k]? = some ok) (hsel : ∀ (j : Nat) (o : Oper) cs b, ops[j]? = some o → o.op ≠ .select cs b)
    (hcomm : ∀ (j : Nat) (oj : Oper), ops[j]? = some oj → k < j → ¬ Waits md ops j k → commB ops qs ok oj = true) :
    ∀ (fuel : Nat) (listed : Array Bool) (a : Act) (w : World), Closed md ops listed → (∀ i, i < k → listed.getD i false = true) → k ∈ Region.ready md ops listed →
      LOp P ops qs I k (LAny P md ops qs I K fuel (listed.setIfInBounds k true)) a w → LAny P md ops qs I K (fuel + 1) listed a w := by
  intro fuel
  induction fuel with
  | zero =>
    intro listed a w hcl hlow hr H
    refine ⟨fun h => (by rw [h] at hr; cases hr), fun j hj => ?_⟩
    by_cases hjk : j = k
    · subst hjk; exact H
    · exfalso
      have hj' := ready_mono hj hjk
      -- behind k nothing is ready any more
      have hno : ∀ {o : Oper} {a : Act} {w : World}, LStep P ops qs I o (LAny P md ops qs I K 0 (listed.setIfInBounds k true)) a w → Region.ready md ops (listed.setIfInBounds k true) = [] := by
        intro o a w h
        unfold LStep at h
        split at h
        · split at h
          · obtain ⟨_, _, h⟩ := h; exact h.1
          · split at h
            · obtain ⟨_, _, h⟩ := h; exact h.1
            · split at h
              · obtain ⟨_, _, h⟩ := h; exact h.1
              · obtain ⟨_, _, _, h⟩ := wp_some (h 0); exact h.1
        · exact h.1
      have hn : Region.ready md ops (listed.setIfInBounds k true) = [] := by
        unfold LOp at H
        rw [hk] at H
        exact hno H
      rw [hn] at hj'
      cases hj'
  | succ fuel ih =>
    intro listed a w hcl hlow hr H
    refine ⟨fun h => (by rw [h] at hr; cases hr), fun j hj => ?_⟩
    by_cases hjk : j = k
    · subst hjk; exact H
    · obtain ⟨hjun, oj, hoj, _⟩ := mem_ready.1 hj
      have hkj : k < j := by
        rcases Nat.lt_or_ge k j with h | h
        · exact h
        · have h1 := hlow j (by omega)
          rw [listed_both hjun] at h1
          cases h1
      have hc := hcomm j oj hoj hkj (hcl.ready hj hr)
      have H2 : LStep P ops qs I ok (LStep P ops qs I oj (LAny P md ops qs I K fuel ((listed.setIfInBounds k true).setIfInBounds j true))) a w := by
        unfold LOp at H
        rw [hk] at H
        refine LStep.mono (fun a' w' h => ?_) H
        have := h.2 j (ready_mono hj hjk)
        unfold LOp at this
        rw [hoj] at this
        exact this
      have H3 := exchange hc (fun cs b => hsel k ok cs b hk) (fun cs b => hsel j oj cs b hoj) H2
      unfold LOp
      rw [hoj]
      refine LStep.mono (fun a' w' h => ?_) H3
      refine ih (listed.setIfInBounds j true) a' w' (hcl.set hj) (fun i hi => getD_set_true (hlow i hi)) (ready_mono hr (Ne.symm hjk)) ?_
      rw [Array.setIfInBounds_comm _ _ hjk]
      unfold LOp
      rw [hk]
      exact h

/-- THE WALK: the operations in the order of the text -/
def Run (P : Program) (ops : Array Oper) (qs : List FuncId) (I : World → Prop) (K : Act → World → Prop) : List Oper → Act → World → Prop
  | [], a, w => ∀ n, K a (w.drewN n)
  | o :: rest, a, w => LStep P ops qs I o (Run P ops qs I K rest) a w

/-- the closed look at a region -/
def okB (md : Region.Mode) (ops : Array Oper) (qs : List FuncId) : Bool :=
  Region.noSelect ops && (List.range ops.size).all fun k => match ops[k]? with
    | none => false
    | some ok => (ok.after.all fun e => !Region.binds md e || Nat.blt e.on k) && (List.range ops.size).all fun j => Nat.ble j k || match ops[j]? with
      | none => false
      | some oj => commB ops qs ok oj || waitsB md ops ops.size j k

theorem okB_spec (h : okB md ops qs = true) {k : Nat} {ok : Oper} (hk : ops[k]? = some ok) :
    (∀ e ∈ ok.after, Region.binds md e = true → e.on < k) ∧ ∀ (j : Nat) (oj : Oper), ops[j]? = some oj → k < j → ¬ Waits md ops j k → commB ops qs ok oj = true := by
  simp only [okB, Bool.and_eq_true, List.all_eq_true, List.mem_range] at h
  have hkl : k < ops.size := (Array.getElem?_eq_some_iff.1 hk).1
  have h1 := h.2 k hkl
  rw [hk] at h1
  simp only [Bool.and_eq_true, List.all_eq_true, List.mem_range] at h1
  refine ⟨fun e he hb => ?_, fun j oj hj hkj hw => ?_⟩
  · have h2 := Array.all_eq_true_iff_forall_mem.1 h1.1 e he
    simp only [hb, Bool.not_true, Bool.false_or] at h2
    exact Nat.blt_eq.mp h2
  · have h2 := h1.2 j (Array.getElem?_eq_some_iff.1 hj).1
    rw [hj] at h2
    simp only [Bool.or_eq_true] at h2
    rcases h2 with h2 | h2 | h2
    · have := Nat.ble_eq.mp h2; omega
    · exact h2
    · exact absurd (waits_of h2) hw
theorem closed_upTo (h : okB md ops qs = true) {k : Nat} (hk : k ≤ ops.size) : Closed md ops (upTo ops.size k) := by
  intro j o ho hl e he hb
  have hj : j < ops.size := (Array.getElem?_eq_some_iff.1 ho).1
  have h1 := (okB_spec h ho).1 e he hb
  rw [upTo_get hk] at hl ⊢
  by_cases hjk : j < k
  · rw [if_pos (by omega)]
  · rw [if_neg hjk, if_pos hj] at hl
    cases hl
theorem any_of_run {K : Act → World → Prop} (hI : ∀ u n, I u → I (u.drewN n)) (h : okB md ops qs = true) : ∀ (l : List Oper) (k : Nat) (a : Act) (w : World), k + l.length = ops.size → (∀ j, l[j]? = ops[k + j]?) →
    Run P ops qs I K l a w → LAny P md ops qs I (fun a w => ∀ n, K a (w.drewN n)) l.length (upTo ops.size k) a w
  | [], k, a, w, hk, _, hr => by
    refine ⟨?_, hr⟩
    apply List.eq_nil_iff_forall_not_mem.2
    intro j hj
    obtain ⟨h0, o, ho, _⟩ := mem_ready.1 hj
    have hj' : j < ops.size := (Array.getElem?_eq_some_iff.1 ho).1
    rw [upTo_get (by omega), if_pos (by simp at hk; omega)] at h0
    cases h0
  | o :: l, k, a, w, hk, hl, hr => by
    have hk' : k < ops.size := by simp at hk; omega
    have ho : ops[k]? = some o := by simpa using (hl 0).symm
    refine first ho (Region.noSelect_spec (by simp only [okB, Bool.and_eq_true] at h; exact h.1)) (okB_spec h ho).2 l.length _ a w (closed_upTo h (by omega)) (fun i hi => by rw [upTo_get (by omega), if_pos hi]) ?_ ?_
    · refine mem_ready.2 ⟨by rw [upTo_get (by omega), if_neg (by omega), if_pos hk'], o, ho, fun e he hb => ?_⟩
      rw [upTo_get (by omega), if_pos ((okB_spec h ho).1 e he hb)]
    · rw [upTo_set hk']
      unfold LOp
      rw [ho]
      exact LStep.mono (fun a' w' h' => any_of_run hI h l (k + 1) a' w' (by simp at hk; omega) (fun j => by have := hl (j + 1); simpa [Nat.add_assoc, Nat.add_comm 1 j] using this) h') hr

/-- what holds of every order, of any world that is w but for draws -/
theorem any_sound {K : Act → World → Prop} {Q : Exit → Act → World → Prop} (hI : ∀ u n, I u → I (u.drewN n)) (hQ : ∀ a w, K a w → ∀ u, CW w u → Q .normal a u) :
    ∀ (f : Nat) (listed : Array Bool) (a : Act) (w u : World), CW w u → I w → LAny P md ops qs I K f listed a w → wpAny P md ops Q f listed a u
  | 0, _, _, _, _, hu, _, h => ⟨h.1, hQ _ _ h.2 _ hu⟩
  | f + 1, listed, a, w, u, hu, hw0, h => by
    refine ⟨fun h0 => hQ _ _ (h.1 h0) _ hu, fun i hi => ?_⟩
    have hIu : I u := by obtain ⟨n, rfl⟩ := hu; exact hI w n hw0
    have h1 := h.2 i hi
    unfold LOp at h1
    unfold wpOp
    split
    · rename_i ho
      rw [ho] at h1
      exact any_sound hI hQ f _ _ _ _ hu hw0 h1
    · rename_i o ho
      rw [ho] at h1
      dsimp only at h1
      unfold LStep at h1
      split
      · rename_i hw
        rw [if_pos hw] at h1
        left
        split at h1
        · obtain ⟨v, h2, h3⟩ := h1
          unfold Oper.wp
          rw [h2 u]
          exact any_sound hI hQ f _ _ _ _ hu hw0 h3
        · split at h1
          · exact Oper.wp_of_quiet (C := CW w) hu (fun a' u' hu' hk => any_sound hI hQ f _ _ _ _ hu' hw0 hk) h1
          · split at h1
            · obtain ⟨v, h2, h3⟩ := h1
              unfold Oper.wp
              rw [h2 u hIu]
              exact any_sound hI hQ f _ _ _ _ hu hw0 h3
            · obtain ⟨n, rfl⟩ := hu
              exact wp_of_F (Oper.wp_mono (fun a' w' hk => any_sound hI hQ f _ _ _ _ (CW.refl w') hk.1 hk.2) (h1 n))
      · rename_i hw
        rw [if_neg hw] at h1
        exact any_sound hI hQ f _ _ _ _ hu hw0 h1

/-- A REGION THAT DRAWS ITS ORDER, WALKED IN THE ORDER OF THE TEXT, FACTS HELD ALL ALONG -/
theorem wp_region_lex {id : Nat} {Q : Exit → Act → World → Prop} {a : Act} {w : World} {l : List Oper} (qs : List FuncId) (I : World → Prop) (hI : ∀ u n, I u → I (u.drewN n)) (h0 : I w) (hm : P.follows .mixedOrders = true) (hB : okB .any l.toArray qs = true)
    (h : Run P l.toArray qs I (fun a' w' => Q .normal a' w') l a w.drew) : (Code.region id l.toArray true).wp P Q a w := by
  refine wp_region_any hm ?_
  have H := any_of_run hI hB l 0 a w.drew (by simp) (fun j => by simp) h
  rw [upTo_zero] at H
  have H2 := any_sound (Q := Q) hI (fun a w hk u hu => by obtain ⟨n, rfl⟩ := hu; exact hk n) _ _ _ _ _ (CW.refl _) (show I w.drew from hI w 1 h0) H
  simpa using H2

/-! ### THE STEPS OF THE WALK -/
theorem run_nil {K : Act → World → Prop} {a : Act} {w : World} (h : ∀ n, K a (w.drewN n)) : Run P ops qs I K [] a w := h
theorem run_free {K : Act → World → Prop} {o : Oper} {rest : List Oper} {a : Act} {w : World} {v : Value} (hc : cls qs o = 0) (hw : Region.wanted o (yielded ops a.tmps) = true)
    (hv : ∀ u, (execOp a.eval o).run P u = .ok (.value v) u) (h : Run P ops qs I K rest (a.put o.dst v) w) : Run P ops qs I K (o :: rest) a w := by
  show LStep P ops qs I o (Run P ops qs I K rest) a w
  unfold LStep
  rw [if_pos hw, if_pos hc]
  exact ⟨v, hv, h⟩
theorem run_skip {K : Act → World → Prop} {o : Oper} {rest : List Oper} {a : Act} {w : World} (hw : Region.wanted o (yielded ops a.tmps) = false)
    (h : Run P ops qs I K rest (a.put o.dst undef) w) : Run P ops qs I K (o :: rest) a w := by
  show LStep P ops qs I o (Run P ops qs I K rest) a w
  unfold LStep
  rw [if_neg (by rw [hw]; simp)]
  exact h
theorem run_load {K : Act → World → Prop} {o : Oper} {rest : List Oper} {a : Act} {w : World} {v : Value} (hc : cls qs o = 4) (hw : Region.wanted o (yielded ops a.tmps) = true)
    (hv : ∀ u, I u → (execOp a.eval o).run P u = .ok (.value v) u) (h : Run P ops qs I K rest (a.put o.dst v) w) : Run P ops qs I K (o :: rest) a w := by
  show LStep P ops qs I o (Run P ops qs I K rest) a w
  unfold LStep
  rw [if_pos hw, if_neg (by rw [hc]; decide), if_neg (by rw [hc]; decide), if_pos hc]
  exact ⟨v, hv, h⟩
theorem run_call {K : Act → World → Prop} {o : Oper} {rest : List Oper} {a : Act} {w : World} {v : Value} {f : FuncId} {args : Array Value} (hc : cls qs o = 1) (hw : Region.wanted o (yielded ops a.tmps) = true)
    (hv : ∀ u, (execOp a.eval o).run P u = .ok (.enter f args) u) (hcall : ∀ n, Calls P f args (w.drewN n) fun e w' => e = .returned v ∧ ∃ k, w' = (w.drewN n).drewN k)
    (h : Run P ops qs I K rest (a.put o.dst v) w) : Run P ops qs I K (o :: rest) a w := by
  show LStep P ops qs I o (Run P ops qs I K rest) a w
  unfold LStep
  rw [if_pos hw, if_neg (by rw [hc]; decide), if_pos hc]
  refine ⟨v, fun u hu => ?_, h⟩
  obtain ⟨n, rfl⟩ := hu
  unfold Oper.quietAt
  rw [hv _]
  refine ⟨rfl, (hcall n).mono fun e w' he => ?_⟩
  obtain ⟨he, k, rfl⟩ := he
  exact ⟨he, n + k, by simp⟩
theorem run_eff {K : Act → World → Prop} {o : Oper} {rest : List Oper} {a : Act} {w : World} (hc : cls qs o = 2) (hw : Region.wanted o (yielded ops a.tmps) = true)
    (h : ∀ (n : Nat) (K' : Act → World → Prop), (∀ a' w', I w' → Run P ops qs I K rest a' w' → K' a' w') → o.wp P a (w.drewN n) K' F) : Run P ops qs I K (o :: rest) a w := by
  show LStep P ops qs I o (Run P ops qs I K rest) a w
  unfold LStep
  rw [if_pos hw, if_neg (by rw [hc]; decide), if_neg (by rw [hc]; decide), if_neg (by rw [hc]; decide)]
  exact fun n => h n _ (fun _ _ h1 h2 => ⟨h1, h2⟩)
end
end Go.Proofs.YtjfgfoeenajneaaGreatDoor.Lex3
namespace Go.Proofs.YtjfgfoeenajneaaGreatDoor.Lex4
open Go Go.Proofs.YtjfgfoeenajneaaGreatDoor.Lex3
open Go.Proofs.YtjfgfoeenajneaaGreatDoor.Lex (CW CW.refl wp_some F letsOut_F Waits waits_of waitsB Closed wp_of_F)

section
variable {P : Program} {ops : Array Oper} {qs : List FuncId} {md : Region.Mode} {I : World → Prop}

theorem unlisted_of {listed : Array Bool} {i j : Nat} (h : (listed.setIfInBounds j true).getD i true = false) : listed.getD i true = false := by
  by_cases hij : i = j
  · subst hij
    rcases Nat.lt_or_ge i listed.size with h' | h'
    · simp [h'] at h
    · rw [Array.setIfInBounds_eq_of_size_le h'] at h; exact h
  · rw [getD_set_ne true (Ne.symm hij)] at h; exact h

/-- number k may be taken first, if whatever else might come up ahead of it may change places with it -/
theorem first {K : Act → World → Prop} {k : Nat} {ok : Oper} (hk : ops[k]? = some ok) (hsel : ∀ (j : Nat) (o : Oper) cs b, ops[j]? = some o → o.op ≠ .select cs b) :
    ∀ (fuel : Nat) (listed : Array Bool) (a : Act) (w : World), Closed md ops listed →
      (∀ (j : Nat) (oj : Oper), ops[j]? = some oj → listed.getD j true = false → j ≠ k → ¬ Waits md ops j k → commB ops qs ok oj = true) → k ∈ Region.ready md ops listed →
      LOp P ops qs I k (LAny P md ops qs I K fuel (listed.setIfInBounds k true)) a w → LAny P md ops qs I K (fuel + 1) listed a w := by
  intro fuel
  induction fuel with
  | zero =>
    intro listed a w hcl hcomm hr H
    refine ⟨fun h => (by rw [h] at hr; cases hr), fun j hj => ?_⟩
    by_cases hjk : j = k
    · subst hjk; exact H
    · exfalso
      have hj' := ready_mono hj hjk
      have hno : ∀ {o : Oper} {a : Act} {w : World}, LStep P ops qs I o (LAny P md ops qs I K 0 (listed.setIfInBounds k true)) a w → Region.ready md ops (listed.setIfInBounds k true) = [] := by
        intro o a w h
        unfold LStep at h
        split at h
        · split at h
          · obtain ⟨_, _, h⟩ := h; exact h.1
          · split at h
            · obtain ⟨_, _, h⟩ := h; exact h.1
            · split at h
              · obtain ⟨_, _, h⟩ := h; exact h.1
              · obtain ⟨_, _, _, h⟩ := wp_some (h 0); exact h.1
        · exact h.1
      have hn : Region.ready md ops (listed.setIfInBounds k true) = [] := by
        unfold LOp at H
        rw [hk] at H
        exact hno H
      rw [hn] at hj'
      cases hj'
  | succ fuel ih =>
    intro listed a w hcl hcomm hr H
    refine ⟨fun h => (by rw [h] at hr; cases hr), fun j hj => ?_⟩
    by_cases hjk : j = k
    · subst hjk; exact H
    · obtain ⟨hjun, oj, hoj, _⟩ := mem_ready.1 hj
      have hc := hcomm j oj hoj hjun hjk (hcl.ready hj hr)
      have H2 : LStep P ops qs I ok (LStep P ops qs I oj (LAny P md ops qs I K fuel ((listed.setIfInBounds k true).setIfInBounds j true))) a w := by
        unfold LOp at H
        rw [hk] at H
        refine LStep.mono (fun a' w' h => ?_) H
        have := h.2 j (ready_mono hj hjk)
        unfold LOp at this
        rw [hoj] at this
        exact this
      have H3 := exchange hc (fun cs b => hsel k ok cs b hk) (fun cs b => hsel j oj cs b hoj) H2
      unfold LOp
      rw [hoj]
      refine LStep.mono (fun a' w' h => ?_) H3
      refine ih (listed.setIfInBounds j true) a' w' (hcl.set hj) (fun i oi hoi hi => hcomm i oi hoi (unlisted_of hi)) (ready_mono hr (Ne.symm hjk)) ?_
      rw [Array.setIfInBounds_comm _ _ hjk]
      unfold LOp
      rw [hk]
      exact h

/-- the closed looks at a step -/
def closedB (md : Region.Mode) (ops : Array Oper) (listed : Array Bool) : Bool := (List.range ops.size).all fun j => match ops[j]? with
  | none => true
  | some o => !listed.getD j false || o.after.all fun e => !Region.binds md e || listed.getD e.on false
theorem closedB_spec {listed : Array Bool} (h : closedB md ops listed = true) : Closed md ops listed := by
  intro j o ho hl e he hb
  simp only [closedB, List.all_eq_true, List.mem_range] at h
  have h1 := h j (Array.getElem?_eq_some_iff.1 ho).1
  rw [ho] at h1
  simp only [hl, Bool.not_true, Bool.false_or] at h1
  have h2 := Array.all_eq_true_iff_forall_mem.1 h1 e he
  simpa [hb] using h2
def takeB (md : Region.Mode) (ops : Array Oper) (qs : List FuncId) (listed : Array Bool) (k : Nat) : Bool :=
  Region.noSelect ops && closedB md ops listed && (Region.ready md ops listed).contains k && (List.range ops.size).all fun j => j == k || listed.getD j true || match ops[k]?, ops[j]? with
    | some ok, some oj => commB ops qs ok oj || waitsB md ops ops.size j k
    | _, _ => false
theorem take {K : Act → World → Prop} {fuel : Nat} {listed : Array Bool} {a : Act} {w : World} {o : Oper} (k : Nat) (hk : ops[k]? = some o) (hB : takeB md ops qs listed k = true)
    (H : LStep P ops qs I o (LAny P md ops qs I K fuel (listed.setIfInBounds k true)) a w) : LAny P md ops qs I K (fuel + 1) listed a w := by
  simp only [takeB, Bool.and_eq_true, List.all_eq_true, List.mem_range, List.contains_iff_mem] at hB
  obtain ⟨⟨⟨h1, h2⟩, h3⟩, h4⟩ := hB
  refine first hk (Region.noSelect_spec h1) fuel listed a w (closedB_spec h2) (fun j oj hj hl hne hw => ?_) h3 ?_
  · have h5 := h4 j (Array.getElem?_eq_some_iff.1 hj).1
    rw [hk, hj] at h5
    simp only [Bool.or_eq_true, beq_iff_eq] at h5
    rcases h5 with (h5 | h5) | h5 | h5
    · exact absurd h5 hne
    · rw [h5] at hl; cases hl
    · exact h5
    · exact absurd (waits_of h5) hw
  · unfold LOp
    rw [hk]
    exact H
/-- two are ready: both orders -/
theorem both {K : Act → World → Prop} {fuel : Nat} {listed : Array Bool} {a : Act} {w : World} {oi oj : Oper} (i j : Nat) (hi : ops[i]? = some oi) (hj : ops[j]? = some oj) (hr : Region.ready md ops listed = [i, j])
    (H1 : LStep P ops qs I oi (LAny P md ops qs I K fuel (listed.setIfInBounds i true)) a w) (H2 : LStep P ops qs I oj (LAny P md ops qs I K fuel (listed.setIfInBounds j true)) a w) : LAny P md ops qs I K (fuel + 1) listed a w := by
  refine ⟨fun h => (by rw [hr] at h; cases h), fun k hk => ?_⟩
  rw [hr] at hk
  simp only [List.mem_cons, List.not_mem_nil, or_false] at hk
  unfold LOp
  rcases hk with rfl | rfl
  · rw [hi]; exact H1
  · rw [hj]; exact H2
theorem one {K : Act → World → Prop} {fuel : Nat} {listed : Array Bool} {a : Act} {w : World} {oi : Oper} (i : Nat) (hi : ops[i]? = some oi) (hr : Region.ready md ops listed = [i])
    (H1 : LStep P ops qs I oi (LAny P md ops qs I K fuel (listed.setIfInBounds i true)) a w) : LAny P md ops qs I K (fuel + 1) listed a w := by
  refine ⟨fun h => (by rw [hr] at h; cases h), fun k hk => ?_⟩
  rw [hr] at hk
  simp only [List.mem_cons, List.not_mem_nil, or_false] at hk
  unfold LOp
  subst hk
  rw [hi]; exact H1
theorem done {K : Act → World → Prop} {listed : Array Bool} {a : Act} {w : World} (hr : Region.ready md ops listed = []) (h : K a w) : LAny P md ops qs I K 0 listed a w := ⟨hr, h⟩

/-- A REGION THAT DRAWS ITS ORDER, FACTS HELD ALL ALONG -/
theorem wp_region_tree {id : Nat} {Q : Exit → Act → World → Prop} {a : Act} {w : World} {l : List Oper} (qs : List FuncId) (f : Nat) (hf : l.length = f) (I : World → Prop) (hI : ∀ u n, I u → I (u.drewN n)) (h0 : I w) (hm : P.follows .mixedOrders = true)
    (h : LAny P .any l.toArray qs I (fun a' w' => ∀ n, Q .normal a' (w'.drewN n)) f (Array.replicate f false) a w.drew) : (Code.region id l.toArray true).wp P Q a w := by
  subst hf
  refine wp_region_any hm ?_
  have H2 := any_sound (Q := Q) hI (fun a w hk u hu => by obtain ⟨n, rfl⟩ := hu; exact hk n) _ _ _ _ _ (CW.refl _) (show I w.drew from hI w 1 h0) h
  simpa using H2

/-- the same, with a cut behind it -/
theorem wp_region_cut {id : Nat} {Q : Exit → Act → World → Prop} {a : Act} {w : World} {l : List Oper} (qs : List FuncId) (f : Nat) (hf : l.length = f) (I : World → Prop) (hI : ∀ u n, I u → I (u.drewN n)) (h0 : I w) (hm : P.follows .mixedOrders = true)
    (R : Act → Act → World → Prop) (h : LAny P .any l.toArray qs I (fun a' w' => ∀ n, R a a' (w'.drewN n)) f (Array.replicate f false) a w.drew) (hq : ∀ a' w', R a a' w' → Q .normal a' w') : (Code.region id l.toArray true).wp P Q a w := by
  subst hf
  refine wp_region_any hm ?_
  have H2 := any_sound (Q := Q) hI (fun a' w' hk u hu => by obtain ⟨n, rfl⟩ := hu; exact hq _ _ (hk n)) _ _ _ _ _ (CW.refl _) (show I w.drew from hI w 1 h0) h
  simpa using H2

theorem at_drop {l : List Oper} {k : Nat} {o : Oper} {r : List Oper} (h : l.drop k = o :: r) : l.toArray[k]? = some o := by
  rw [List.getElem?_toArray, ← Nat.add_zero k, ← List.getElem?_drop, h]
  rfl
theorem takeL {K : Act → World → Prop} {fuel : Nat} {listed : Array Bool} {a : Act} {w : World} {l r : List Oper} {o : Oper} (k : Nat) (hk : l.drop k = o :: r) (hB : takeB md l.toArray qs listed k = true)
    (H : LStep P l.toArray qs I o (LAny P md l.toArray qs I K fuel (listed.setIfInBounds k true)) a w) : LAny P md l.toArray qs I K (fuel + 1) listed a w := take k (at_drop hk) hB H
theorem bothL {K : Act → World → Prop} {fuel : Nat} {listed : Array Bool} {a : Act} {w : World} {l r r' : List Oper} {oi oj : Oper} (i j : Nat) (hi : l.drop i = oi :: r) (hj : l.drop j = oj :: r') (hr : Region.ready md l.toArray listed = [i, j])
    (H1 : LStep P l.toArray qs I oi (LAny P md l.toArray qs I K fuel (listed.setIfInBounds i true)) a w) (H2 : LStep P l.toArray qs I oj (LAny P md l.toArray qs I K fuel (listed.setIfInBounds j true)) a w) : LAny P md l.toArray qs I K (fuel + 1) listed a w :=
  both i j (at_drop hi) (at_drop hj) hr H1 H2
theorem oneL {K : Act → World → Prop} {fuel : Nat} {listed : Array Bool} {a : Act} {w : World} {l r : List Oper} {oi : Oper} (i : Nat) (hi : l.drop i = oi :: r) (hr : Region.ready md l.toArray listed = [i])
    (H1 : LStep P l.toArray qs I oi (LAny P md l.toArray qs I K fuel (listed.setIfInBounds i true)) a w) : LAny P md l.toArray qs I K (fuel + 1) listed a w := one i (at_drop hi) hr H1

/-! ### THE STEPS -/
theorem free_ {K : Act → World → Prop} {o : Oper} {a : Act} {w : World} {v : Value} (hc : cls qs o = 0) (hw : Region.wanted o (yielded ops a.tmps) = true)
    (hv : ∀ u, (execOp a.eval o).run P u = .ok (.value v) u) (h : K (a.put o.dst v) w) : LStep P ops qs I o K a w := by
  unfold LStep
  rw [if_pos hw, if_pos hc]
  exact ⟨v, hv, h⟩
theorem skip_ {K : Act → World → Prop} {o : Oper} {a : Act} {w : World} (hw : Region.wanted o (yielded ops a.tmps) = false) (h : K (a.put o.dst undef) w) : LStep P ops qs I o K a w := by
  unfold LStep
  rw [if_neg (by rw [hw]; simp)]
  exact h
theorem load_ {K : Act → World → Prop} {o : Oper} {a : Act} {w : World} {v : Value} (hc : cls qs o = 4) (hw : Region.wanted o (yielded ops a.tmps) = true)
    (hv : ∀ u, I u → (execOp a.eval o).run P u = .ok (.value v) u) (h : K (a.put o.dst v) w) : LStep P ops qs I o K a w := by
  unfold LStep
  rw [if_pos hw, if_neg (by rw [hc]; decide), if_neg (by rw [hc]; decide), if_pos hc]
  exact ⟨v, hv, h⟩
theorem eff_ {K : Act → World → Prop} {o : Oper} {a : Act} {w : World} (hc : cls qs o = 2) (hw : Region.wanted o (yielded ops a.tmps) = true)
    (h : ∀ (n : Nat) (K' : Act → World → Prop), (∀ a' w', I w' → K a' w' → K' a' w') → o.wp P a (w.drewN n) K' F) : LStep P ops qs I o K a w := by
  unfold LStep
  rw [if_pos hw, if_neg (by rw [hc]; decide), if_neg (by rw [hc]; decide), if_neg (by rw [hc]; decide)]
  exact fun n => h n _ (fun _ _ h1 h2 => ⟨h1, h2⟩)
/-- a call that makes memory -/
theorem wp_call {o : Oper} {a : Act} {w : World} {K : Act → World → Prop} {f : FuncId} {args : Array Value} {Post : Ending → World → Prop} (hv : (execOp a.eval o).run P w = .ok (.enter f args) w)
    (hcall : Calls P f args w Post) (h : ∀ e w', Post e w' → ∃ v, e = .returned v ∧ K (a.put o.dst v) w') : o.wp P a w K F := by
  unfold Oper.wp
  rw [hv, Oper.upon_enter]
  refine hcall.mono fun e w' hp => ?_
  obtain ⟨v, rfl, hk⟩ := h e w' hp
  exact hk
end
end Go.Proofs.YtjfgfoeenajneaaGreatDoor.Lex4
namespace Go.Proofs.YtjfgfoeenajneaaGreatDoor.LexZ
open Go Go.Proofs.YtjfgfoeenajneaaGreatDoor.Lex3 Go.Proofs.YtjfgfoeenajneaaGreatDoor.Lex4
open Go.Proofs.YtjfgfoeenajneaaGreatDoor.Lex (CW CW.refl wp_some F letsOut_F Waits waits_of waitsB Closed wp_of_F)

section
variable {P : Program} {ops : Array Oper} {qs : List FuncId} {md : Region.Mode} {I : World → Prop} {z : Nat}

def LAnyZ (P : Program) (md : Region.Mode) (ops : Array Oper) (qs : List FuncId) (I : World → Prop) (z : Nat) (K : Act → World → Prop) : Nat → Array Bool → Act → World → Prop
  | 0, listed, a, w => (Region.ready md ops listed = [z] ∧ Region.ready md ops (listed.setIfInBounds z true) = []) ∧ K a w
  | f + 1, listed, a, w => Region.ready md ops listed ≠ [] ∧ ∀ i ∈ Region.ready md ops listed, LOp P ops qs I i (LAnyZ P md ops qs I z K f (listed.setIfInBounds i true)) a w

theorem first {K : Act → World → Prop} {k : Nat} {ok : Oper} (hk : ops[k]? = some ok) (hz : Waits md ops z k) (hsel : ∀ (j : Nat) (o : Oper) cs b, ops[j]? = some o → o.op ≠ .select cs b) :
    ∀ (fuel : Nat) (listed : Array Bool) (a : Act) (w : World), Closed md ops listed →
      (∀ (j : Nat) (oj : Oper), ops[j]? = some oj → listed.getD j true = false → j ≠ k → ¬ Waits md ops j k → commB ops qs ok oj = true) → k ∈ Region.ready md ops listed →
      LOp P ops qs I k (LAnyZ P md ops qs I z K fuel (listed.setIfInBounds k true)) a w → LAnyZ P md ops qs I z K (fuel + 1) listed a w := by
  intro fuel
  induction fuel with
  | zero =>
    intro listed a w hcl hcomm hr H
    refine ⟨fun h => (by rw [h] at hr; cases hr), fun j hj => ?_⟩
    by_cases hjk : j = k
    · subst hjk; exact H
    · exfalso
      have hj' := ready_mono hj hjk
      have hno : ∀ {o : Oper} {a : Act} {w : World}, LStep P ops qs I o (LAnyZ P md ops qs I z K 0 (listed.setIfInBounds k true)) a w → Region.ready md ops (listed.setIfInBounds k true) = [z] := by
        intro o a w h
        unfold LStep at h
        split at h
        · split at h
          · obtain ⟨_, _, h⟩ := h; exact h.1.1
          · split at h
            · obtain ⟨_, _, h⟩ := h; exact h.1.1
            · split at h
              · obtain ⟨_, _, h⟩ := h; exact h.1.1
              · obtain ⟨_, _, _, h⟩ := wp_some (h 0); exact h.1.1
        · exact h.1.1
      have hn : Region.ready md ops (listed.setIfInBounds k true) = [z] := by
        unfold LOp at H
        rw [hk] at H
        exact hno H
      rw [hn] at hj'
      obtain rfl : j = z := by simpa using hj'
      exact hcl.ready hj hr hz
  | succ fuel ih =>
    intro listed a w hcl hcomm hr H
    refine ⟨fun h => (by rw [h] at hr; cases hr), fun j hj => ?_⟩
    by_cases hjk : j = k
    · subst hjk; exact H
    · obtain ⟨hjun, oj, hoj, _⟩ := mem_ready.1 hj
      have hc := hcomm j oj hoj hjun hjk (hcl.ready hj hr)
      have H2 : LStep P ops qs I ok (LStep P ops qs I oj (LAnyZ P md ops qs I z K fuel ((listed.setIfInBounds k true).setIfInBounds j true))) a w := by
        unfold LOp at H
        rw [hk] at H
        refine LStep.mono (fun a' w' h => ?_) H
        have := h.2 j (ready_mono hj hjk)
        unfold LOp at this
        rw [hoj] at this
        exact this
      have H3 := exchange hc (fun cs b => hsel k ok cs b hk) (fun cs b => hsel j oj cs b hoj) H2
      unfold LOp
      rw [hoj]
      refine LStep.mono (fun a' w' h => ?_) H3
      refine ih (listed.setIfInBounds j true) a' w' (hcl.set hj) (fun i oi hoi hi => hcomm i oi hoi (unlisted_of hi)) (ready_mono hr (Ne.symm hjk)) ?_
      rw [Array.setIfInBounds_comm _ _ hjk]
      unfold LOp
      rw [hk]
      exact h

theorem at_drop {l : List Oper} {k : Nat} {o : Oper} {r : List Oper} (h : l.drop k = o :: r) : l.toArray[k]? = some o := by
  rw [List.getElem?_toArray, ← Nat.add_zero k, ← List.getElem?_drop, h]
  rfl
theorem take {K : Act → World → Prop} {fuel : Nat} {listed : Array Bool} {a : Act} {w : World} {l r : List Oper} {o : Oper} (k : Nat) (hk : l.drop k = o :: r) (hB : (takeB md l.toArray qs listed k && waitsB md l.toArray l.toArray.size z k) = true)
    (H : LStep P l.toArray qs I o (LAnyZ P md l.toArray qs I z K fuel (listed.setIfInBounds k true)) a w) : LAnyZ P md l.toArray qs I z K (fuel + 1) listed a w := by
  simp only [takeB, Bool.and_eq_true, List.all_eq_true, List.mem_range, List.contains_iff_mem] at hB
  obtain ⟨⟨⟨⟨h1, h2⟩, h3⟩, h4⟩, h6⟩ := hB
  have hk' := at_drop hk
  refine first hk' (waits_of h6) (Region.noSelect_spec h1) fuel listed a w (closedB_spec h2) (fun j oj hj hl hne hw => ?_) h3 ?_
  · have h5 := h4 j (Array.getElem?_eq_some_iff.1 hj).1
    rw [hk', hj] at h5
    simp only [Bool.or_eq_true, beq_iff_eq] at h5
    rcases h5 with (h5 | h5) | h5 | h5
    · exact absurd h5 hne
    · rw [h5] at hl; cases hl
    · exact h5
    · exact absurd (waits_of h5) hw
  · unfold LOp
    rw [hk']
    exact H
theorem both {K : Act → World → Prop} {fuel : Nat} {listed : Array Bool} {a : Act} {w : World} {l r r' : List Oper} {oi oj : Oper} (i j : Nat) (hi : l.drop i = oi :: r) (hj : l.drop j = oj :: r') (hr : Region.ready md l.toArray listed = [i, j])
    (H1 : LStep P l.toArray qs I oi (LAnyZ P md l.toArray qs I z K fuel (listed.setIfInBounds i true)) a w) (H2 : LStep P l.toArray qs I oj (LAnyZ P md l.toArray qs I z K fuel (listed.setIfInBounds j true)) a w) : LAnyZ P md l.toArray qs I z K (fuel + 1) listed a w := by
  refine ⟨fun h => (by rw [hr] at h; cases h), fun k hk => ?_⟩
  rw [hr] at hk
  simp only [List.mem_cons, List.not_mem_nil, or_false] at hk
  unfold LOp
  rcases hk with rfl | rfl
  · rw [at_drop hi]; exact H1
  · rw [at_drop hj]; exact H2
theorem one {K : Act → World → Prop} {fuel : Nat} {listed : Array Bool} {a : Act} {w : World} {l r : List Oper} {oi : Oper} (i : Nat) (hi : l.drop i = oi :: r) (hr : Region.ready md l.toArray listed = [i])
    (H1 : LStep P l.toArray qs I oi (LAnyZ P md l.toArray qs I z K fuel (listed.setIfInBounds i true)) a w) : LAnyZ P md l.toArray qs I z K (fuel + 1) listed a w := by
  refine ⟨fun h => (by rw [hr] at h; cases h), fun k hk => ?_⟩
  rw [hr] at hk
  simp only [List.mem_cons, List.not_mem_nil, or_false] at hk
  unfold LOp
  subst hk
  rw [at_drop hi]; exact H1
theorem done {K : Act → World → Prop} {listed : Array Bool} {a : Act} {w : World} (hr : Region.ready md ops listed = [z]) (hr2 : Region.ready md ops (listed.setIfInBounds z true) = []) (h : K a w) : LAnyZ P md ops qs I z K 0 listed a w := ⟨⟨hr, hr2⟩, h⟩

theorem any_sound {oz : Oper} (hz : ops[z]? = some oz) {K : Act → World → Prop} {Q : Exit → Act → World → Prop} (hI : ∀ u n, I u → I (u.drewN n)) (hQ : ∀ a w, K a w → ∀ u, CW w u → Region.wanted oz (yielded ops a.tmps) = true ∧ oz.wp P a u (fun a' u' => Q .normal a' u') F) :
    ∀ (f : Nat) (listed : Array Bool) (a : Act) (w u : World), CW w u → I w → LAnyZ P md ops qs I z K f listed a w → wpAny P md ops Q (f + 1) listed a u
  | 0, listed, a, w, u, hu, _, h => by
    refine ⟨fun h0 => (by rw [h.1.1] at h0; cases h0), fun i hi => ?_⟩
    rw [h.1.1] at hi
    obtain rfl : i = z := by simpa using hi
    unfold wpOp
    rw [hz]
    have h3 := hQ a w h.2 u hu
    dsimp only
    rw [if_pos h3.1]
    left
    exact wp_of_F (Oper.wp_mono (fun a' w' hk => ⟨h.1.2, hk⟩) h3.2)
  | f + 1, listed, a, w, u, hu, hw0, h => by
    refine ⟨fun h0 => absurd h0 h.1, fun i hi => ?_⟩
    have hIu : I u := by obtain ⟨n, rfl⟩ := hu; exact hI w n hw0
    have h1 := h.2 i hi
    unfold LOp at h1
    unfold wpOp
    split
    · rename_i ho
      rw [ho] at h1
      exact any_sound hz hI hQ f _ _ _ _ hu hw0 h1
    · rename_i o ho
      rw [ho] at h1
      dsimp only at h1
      unfold LStep at h1
      split
      · rename_i hw
        rw [if_pos hw] at h1
        left
        split at h1
        · obtain ⟨v, h2, h3⟩ := h1
          unfold Oper.wp
          rw [h2 u]
          exact any_sound hz hI hQ f _ _ _ _ hu hw0 h3
        · split at h1
          · exact Oper.wp_of_quiet (C := CW w) hu (fun a' u' hu' hk => any_sound hz hI hQ f _ _ _ _ hu' hw0 hk) h1
          · split at h1
            · obtain ⟨v, h2, h3⟩ := h1
              unfold Oper.wp
              rw [h2 u hIu]
              exact any_sound hz hI hQ f _ _ _ _ hu hw0 h3
            · obtain ⟨n, rfl⟩ := hu
              exact wp_of_F (Oper.wp_mono (fun a' w' hk => any_sound hz hI hQ f _ _ _ _ (CW.refl w') hk.1 hk.2) (h1 n))
      · rename_i hw
        rw [if_neg hw] at h1
        exact any_sound hz hI hQ f _ _ _ _ hu hw0 h1

/-- A REGION THAT DRAWS ITS ORDER, ITS LAST OPERATION A STORE -/
theorem wp_region {id : Nat} {Q : Exit → Act → World → Prop} {a : Act} {w : World} {l : List Oper} (qs : List FuncId) (z : Nat) (hf : l.length = z + 1) (oz : Oper) (hz : l.drop z = [oz]) (hg : oz.guard = none) (I : World → Prop) (hI : ∀ u n, I u → I (u.drewN n)) (h0 : I w) (hm : P.follows .mixedOrders = true)
    (h : LAnyZ P .any l.toArray qs I z (fun a' w' => ∀ n, oz.wp P a' (w'.drewN n) (fun a' u' => Q .normal a' u') F) z (Array.replicate (z + 1) false) a w.drew) : (Code.region id l.toArray true).wp P Q a w := by
  refine wp_region_any hm ?_
  have H2 := any_sound (Q := Q) (at_drop hz) hI (fun a' w' hk u hu => by obtain ⟨n, rfl⟩ := hu; exact ⟨by unfold Region.wanted; rw [hg], hk n⟩) _ _ _ _ _ (CW.refl _) (show I w.drew from hI w 1 h0) h
  rw [← hf] at H2
  simpa using H2
end
end Go.Proofs.YtjfgfoeenajneaaGreatDoor.LexZ
namespace Go.Proofs.YtjfgfoeenajneaaGreatDoor.Lex5
open Go Go.Proofs.YtjfgfoeenajneaaGreatDoor.Lex

/-- 0: yields its value in whatever world · 1: calls a function that only reads · 2: anything · 4: loads -/
def cls (qs : List FuncId) (o : Oper) : Nat := match o.op with
  | .move _ | .assign _ | .pick .. | .nilCheck _ | .binOp .. | .unOp .. | .fieldAddr .. | .indexAddr .. | .slice .. | .extract .. | .field .. | .index .. | .build .. => 0
  | .load .. => 4
  | .call c => match c.callee with
    | .builtin .len | .builtin .cap | .builtin .min | .builtin .max => 0
    | .value (.func f) => if qs.contains f then 1 else 2
    | _ => 2
  | _ => 2

section
variable {P : Program} {ops : Array Oper} {qs : List FuncId} {md : Region.Mode} {I : World → Prop}

/-- one operation, by its class -/
def LStep (P : Program) (ops : Array Oper) (qs : List FuncId) (I : World → Prop) (o : Oper) (K : Act → World → Prop) (a : Act) (w : World) : Prop :=
  if Region.wanted o (yielded ops a.tmps) = true then
    (if cls qs o = 0 then ∃ v, (∀ u, (execOp a.eval o).run P u = .ok (.value v) u) ∧ K (a.put o.dst v) w
     else if cls qs o = 1 then o.quiet P a (CW w) (fun a' => K a' w)
     else if cls qs o = 4 then ∃ v, (∀ u, I u → (execOp a.eval o).run P u = .ok (.value v) u) ∧ K (a.put o.dst v) w
     else ∀ n, o.wp P a (w.drewN n) (fun a' w' => I w' ∧ K a' w') F)
  else K (a.put o.dst undef) w

theorem LStep.mono {o : Oper} {K K' : Act → World → Prop} {a : Act} {w : World} (h : ∀ a w, K a w → K' a w) (hh : LStep P ops qs I o K a w) : LStep P ops qs I o K' a w := by
  unfold LStep at *
  split
  · rename_i hw
    rw [if_pos hw] at hh
    split
    · rename_i hc
      rw [if_pos hc] at hh
      obtain ⟨v, h1, h2⟩ := hh
      exact ⟨v, h1, h _ _ h2⟩
    · rename_i hc
      rw [if_neg hc] at hh
      split
      · rename_i hc1
        rw [if_pos hc1] at hh
        exact Oper.quiet_mono (fun a' => h a' w) hh
      · rename_i hc1
        rw [if_neg hc1] at hh
        split
        · rename_i hc4
          rw [if_pos hc4] at hh
          obtain ⟨v, h1, h2⟩ := hh
          exact ⟨v, h1, h _ _ h2⟩
        · rename_i hc4
          rw [if_neg hc4] at hh
          exact fun n => Oper.wp_mono (fun a' w' hk => ⟨hk.1, h _ _ hk.2⟩) (hh n)
  · rename_i hw
    rw [if_neg hw] at hh
    exact h _ _ hh

/-- may two operations change places? (x stands ahead of y in the text) -/
def commB (ops : Array Oper) (qs : List FuncId) (x y : Oper) : Bool := x.apart ops y && (cls qs x == 0 || cls qs x == 4 || cls qs y == 0 || cls qs y == 4 || (cls qs x == 1 && cls qs y == 1))

/-- THE EXCHANGE. -/
theorem exchange {k j : Oper} (hc : commB ops qs k j = true) (hk : ∀ cs b, k.op ≠ .select cs b) (hj : ∀ cs b, j.op ≠ .select cs b) {K : Act → World → Prop} {a : Act} {w : World}
    (H : LStep P ops qs I k (LStep P ops qs I j K) a w) : LStep P ops qs I j (LStep P ops qs I k K) a w := by
  simp only [commB, Bool.and_eq_true, Bool.or_eq_true, beq_iff_eq] at hc
  obtain ⟨hap, hcls⟩ := hc
  obtain ⟨h1, h2, h3⟩ := Oper.apart_spec hap
  have h2' : ∀ d, j.dst = some d → k.dst ≠ some d := fun d hd e => h2 d e hd
  have pc : ∀ (a : Act) (v u : Value), (a.put k.dst v).put j.dst u = (a.put j.dst u).put k.dst v := fun a v u => Act.put_comm a v u h2
  have sj : ∀ (a : Act) (v : Value), Same ops j a (a.put k.dst v) := fun a v => Same.put hj h1 a v
  have sk : ∀ (a : Act) (u : Value), Same ops k a (a.put j.dst u) := fun a u => Same.put hk h3 a u
  -- k is passed over, or yields one value in the worlds that matter
  have simpleK : ∀ (v : Value), LStep P ops qs I j K (a.put k.dst v) w → (∀ (a' : Act) (w' : World), Same ops k a a' → (Region.wanted k (yielded ops a.tmps) = true → cls qs k = 1 → w' = w) → K (a'.put k.dst v) w' → LStep P ops qs I k K a' w') → LStep P ops qs I j (LStep P ops qs I k K) a w := by
    intro v H hback
    unfold LStep at H ⊢
    rw [(sj a v).2] at H
    split
    · rename_i hw
      rw [if_pos hw] at H
      split
      · rename_i hc0
        rw [if_pos hc0] at H
        obtain ⟨u, hu, hK⟩ := H
        refine ⟨u, fun x => by rw [← (sj a v).1]; exact hu x, ?_⟩
        exact hback _ _ (sk a u) (fun _ _ => rfl) (by rw [← pc]; exact hK)
      · rename_i hc0
        rw [if_neg hc0] at H
        split
        · rename_i hc1
          rw [if_pos hc1] at H
          obtain ⟨u, hu, hK⟩ := H
          refine ⟨u, fun x hx => quiet_same (sj a v).1.symm (hu x hx), ?_⟩
          exact hback _ _ (sk a u) (fun _ _ => rfl) (by rw [← pc]; exact hK)
        · rename_i hc1
          rw [if_neg hc1] at H
          split
          · rename_i hc4
            rw [if_pos hc4] at H
            obtain ⟨u, hu, hK⟩ := H
            refine ⟨u, fun x hx => by rw [← (sj a v).1]; exact hu x hx, ?_⟩
            exact hback _ _ (sk a u) (fun _ _ => rfl) (by rw [← pc]; exact hK)
          · rename_i hc4
            rw [if_neg hc4] at H
            intro n
            refine Oper.wp_mono ?_ (wp_same (ops := ops) hk h3 (wp_put_out (ops := ops) hj h1 h2 (H n)))
            rintro a1 w1 ⟨hs, hi, hK⟩
            exact ⟨hi, hback a1 w1 hs (fun _ h => by exfalso; rcases hcls with (((h' | h') | h') | h') | ⟨_, h'⟩ <;> first | omega | exact hc0 h' | exact hc1 h' | exact hc4 h') hK⟩
    · rename_i hw
      rw [if_neg hw] at H
      exact hback _ _ (sk a undef) (fun _ _ => rfl) (by rw [← pc]; exact H)
  by_cases hw : Region.wanted k (yielded ops a.tmps) = true
  · by_cases hk0 : cls qs k = 0
    · unfold LStep at H
      rw [if_pos hw, if_pos hk0] at H
      obtain ⟨v, hv, HJ⟩ := H
      refine simpleK v HJ ?_
      intro a' w' hs _ hK
      unfold LStep
      rw [hs.2, if_pos hw, if_pos hk0]
      exact ⟨v, fun u => by rw [hs.1]; exact hv u, hK⟩
    · by_cases hk1 : cls qs k = 1
      · unfold LStep at H
        rw [if_pos hw, if_neg hk0, if_pos hk1] at H
        obtain ⟨v, hv, HJ⟩ := H
        refine simpleK v HJ ?_
        intro a' w' hs he hK
        obtain rfl := he hw hk1
        unfold LStep
        rw [hs.2, if_pos hw, if_neg hk0, if_pos hk1]
        exact ⟨v, fun u hu => quiet_same hs.1 (hv u hu), hK⟩
      · by_cases hk4 : cls qs k = 4
        · unfold LStep at H
          rw [if_pos hw, if_neg hk0, if_neg hk1, if_pos hk4] at H
          obtain ⟨v, hv, HJ⟩ := H
          refine simpleK v HJ ?_
          intro a' w' hs _ hK
          unfold LStep
          rw [hs.2, if_pos hw, if_neg hk0, if_neg hk1, if_pos hk4]
          exact ⟨v, fun u hu => by rw [hs.1]; exact hv u hu, hK⟩
        · -- k is an effect: j yields one value
          unfold LStep at H
          rw [if_pos hw, if_neg hk0, if_neg hk1, if_neg hk4] at H
          have HS := fun n => wp_same (ops := ops) hj h1 (H n)
          obtain ⟨a1, w1, hs1, hi1, hK1⟩ := wp_some (HS 0)
          unfold LStep
          by_cases hwj : Region.wanted j (yielded ops a.tmps) = true
          · rw [if_pos hwj]
            rw [hs1.2, if_pos hwj] at hK1
            by_cases hj0 : cls qs j = 0
            · rw [if_pos hj0] at hK1 ⊢
              obtain ⟨u, hu, _⟩ := hK1
              refine ⟨u, fun x => by rw [← hs1.1]; exact hu x, ?_⟩
              rw [(sk a u).2, if_pos hw, if_neg hk0, if_neg hk1, if_neg hk4]
              intro n
              refine wp_put_in (ops := ops) hk h3 h2' (Oper.wp_mono ?_ (HS n))
              rintro a2 w2 ⟨hs2, hi2, hK2⟩
              rw [hs2.2, if_pos hwj, if_pos hj0] at hK2
              obtain ⟨u', hu', hK2⟩ := hK2
              have e1 := hu' w
              have e2 := hu w
              rw [hs2.1] at e1
              rw [hs1.1, e1] at e2
              injection e2 with e2
              injection e2 with e2
              rw [← e2]
              exact ⟨hi2, hK2⟩
            · have hj4 : cls qs j = 4 := by omega
              have hj1 : ¬ cls qs j = 1 := by omega
              rw [if_neg hj0, if_neg hj1, if_pos hj4] at hK1 ⊢
              obtain ⟨u, hu, _⟩ := hK1
              refine ⟨u, fun x hx => by rw [← hs1.1]; exact hu x hx, ?_⟩
              rw [(sk a u).2, if_pos hw, if_neg hk0, if_neg hk1, if_neg hk4]
              intro n
              refine wp_put_in (ops := ops) hk h3 h2' (Oper.wp_mono ?_ (HS n))
              rintro a2 w2 ⟨hs2, hi2, hK2⟩
              rw [hs2.2, if_pos hwj, if_neg hj0, if_neg hj1, if_pos hj4] at hK2
              obtain ⟨u', hu', hK2⟩ := hK2
              have e1 := hu' w1 hi1
              have e2 := hu w1 hi1
              rw [hs2.1] at e1
              rw [hs1.1, e1] at e2
              injection e2 with e2
              injection e2 with e2
              rw [← e2]
              exact ⟨hi2, hK2⟩
          · rw [if_neg hwj]
            rw [(sk a undef).2, if_pos hw, if_neg hk0, if_neg hk1, if_neg hk4]
            intro n
            refine wp_put_in (ops := ops) hk h3 h2' (Oper.wp_mono ?_ (HS n))
            rintro a2 w2 ⟨hs2, hi2, hK2⟩
            rw [hs2.2, if_neg hwj] at hK2
            exact ⟨hi2, hK2⟩
  · unfold LStep at H
    rw [if_neg hw] at H
    refine simpleK undef H ?_
    intro a' w' hs _ hK
    unfold LStep
    rw [hs.2, if_neg hw]
    exact hK

/-- operation number i -/
def LOp (P : Program) (ops : Array Oper) (qs : List FuncId) (I : World → Prop) (i : Nat) (K : Act → World → Prop) (a : Act) (w : World) : Prop := match ops[i]? with
  | none => K a w
  | some o => LStep P ops qs I o K a w
theorem LOp.mono {i : Nat} {K K' : Act → World → Prop} {a : Act} {w : World} (h : ∀ a w, K a w → K' a w) (hh : LOp P ops qs I i K a w) : LOp P ops qs I i K' a w := by
  unfold LOp at *
  split
  · rename_i ho
    rw [ho] at hh
    exact h _ _ hh
  · rename_i o ho
    rw [ho] at hh
    exact LStep.mono h hh

/-- whatever order is picked from here on -/
def LAny (P : Program) (md : Region.Mode) (ops : Array Oper) (qs : List FuncId) (I : World → Prop) (K : Act → World → Prop) : Nat → Array Bool → Act → World → Prop
  | 0, listed, a, w => Region.ready md ops listed = [] ∧ K a w
  | f + 1, listed, a, w => (Region.ready md ops listed = [] → K a w) ∧ ∀ i ∈ Region.ready md ops listed, LOp P ops qs I i (LAny P md ops qs I K f (listed.setIfInBounds i true)) a w

/-- number k may be taken first, if whatever else might come up ahead of it may change places with it -/
theorem first {K : Act → World → Prop} {k : Nat} {ok : Oper} (hk : ops[k]? = some ok) (hsel : ∀ (j : Nat) (o : Oper) cs b, ops[j]? = some o → o.op ≠ .select cs b)
    (hcomm : ∀ (j : Nat) (oj : Oper), ops[j]? = some oj → k < j → ¬ Waits md ops j k → commB ops qs ok oj = true) :
    ∀ (fuel : Nat) (listed : Array Bool) (a : Act) (w : World), Closed md ops listed → (∀ i, i < k → listed.getD i false = true) → k ∈ Region.ready md ops listed →
      LOp P ops qs I k (LAny P md ops qs I K fuel (listed.setIfInBounds k true)) a w → LAny P md ops qs I K (fuel + 1) listed a w := by
  intro fuel
  induction fuel with
  | zero =>
    intro listed a w hcl hlow hr H
    refine ⟨fun h => (by rw [h] at hr; cases hr), fun j hj => ?_⟩
    by_cases hjk : j = k
    · subst hjk; exact H
    · exfalso
      have hj' := ready_mono hj hjk
      -- behind k nothing is ready any more
      have hno : ∀ {o : Oper} {a : Act} {w : World}, LStep P ops qs I o (LAny P md ops qs I K 0 (listed.setIfInBounds k true)) a w → Region.ready md ops (listed.setIfInBounds k true) = [] := by
        intro o a w h
        unfold LStep at h
        split at h
        · split at h
          · obtain ⟨_, _, h⟩ := h; exact h.1
          · split at h
            · obtain ⟨_, _, h⟩ := h; exact h.1
            · split at h
              · obtain ⟨_, _, h⟩ := h; exact h.1
              · obtain ⟨_, _, _, h⟩ := wp_some (h 0); exact h.1
        · exact h.1
      have hn : Region.ready md ops (listed.setIfInBounds k true) = [] := by
        unfold LOp at H
        rw [hk] at H
        exact hno H
      rw [hn] at hj'
      cases hj'
  | succ fuel ih =>
    intro listed a w hcl hlow hr H
    refine ⟨fun h => (by rw [h] at hr; cases hr), fun j hj => ?_⟩
    by_cases hjk : j = k
    · subst hjk; exact H
    · obtain ⟨hjun, oj, hoj, _⟩ := mem_ready.1 hj
      have hkj : k < j := by
        rcases Nat.lt_or_ge k j with h | h
        · exact h
        · have h1 := hlow j (by omega)
          rw [listed_both hjun] at h1
          cases h1
      have hc := hcomm j oj hoj hkj (hcl.ready hj hr)
      have H2 : LStep P ops qs I ok (LStep P ops qs I oj (LAny P md ops qs I K fuel ((listed.setIfInBounds k true).setIfInBounds j true))) a w := by
        unfold LOp at H
        rw [hk] at H
        refine LStep.mono (fun a' w' h => ?_) H
        have := h.2 j (ready_mono hj hjk)
        unfold LOp at this
        rw [hoj] at this
        exact this
      have H3 := exchange hc (fun cs b => hsel k ok cs b hk) (fun cs b => hsel j oj cs b hoj) H2
      unfold LOp
      rw [hoj]
      refine LStep.mono (fun a' w' h => ?_) H3
      refine ih (listed.setIfInBounds j true) a' w' (hcl.set hj) (fun i hi => getD_set_true (hlow i hi)) (ready_mono hr (Ne.symm hjk)) ?_
      rw [Array.setIfInBounds_comm _ _ hjk]
      unfold LOp
      rw [hk]
      exact h

/-- THE WALK: the operations in the order of the text -/
def Run (P : Program) (ops : Array Oper) (qs : List FuncId) (I : World → Prop) (K : Act → World → Prop) : List Oper → Act → World → Prop
  | [], a, w => ∀ n, K a (w.drewN n)
  | o :: rest, a, w => LStep P ops qs I o (Run P ops qs I K rest) a w

/-- the closed look at a region -/
def okB (md : Region.Mode) (ops : Array Oper) (qs : List FuncId) : Bool :=
  Region.noSelect ops && (List.range ops.size).all fun k => match ops[k]? with
    | none => false
    | some ok => (ok.after.all fun e => !Region.binds md e || Nat.blt e.on k) && (List.range ops.size).all fun j => Nat.ble j k || match ops[j]? with
      | none => false
      | some oj => commB ops qs ok oj || waitsB md ops ops.size j k

theorem okB_spec (h : okB md ops qs = true) {k : Nat} {ok : Oper} (hk : ops[k]? = some ok) :
    (∀ e ∈ ok.after, Region.binds md e = true → e.on < k) ∧ ∀ (j : Nat) (oj : Oper), ops[j]? = some oj → k < j → ¬ Waits md ops j k → commB ops qs ok oj = true := by
  simp only [okB, Bool.and_eq_true, List.all_eq_true, List.mem_range] at h
  have hkl : k < ops.size := (Array.getElem?_eq_some_iff.1 hk).1
  have h1 := h.2 k hkl
  rw [hk] at h1
  simp only [Bool.and_eq_true, List.all_eq_true, List.mem_range] at h1
  refine ⟨fun e he hb => ?_, fun j oj hj hkj hw => ?_⟩
  · have h2 := Array.all_eq_true_iff_forall_mem.1 h1.1 e he
    simp only [hb, Bool.not_true, Bool.false_or] at h2
    exact Nat.blt_eq.mp h2
  · have h2 := h1.2 j (Array.getElem?_eq_some_iff.1 hj).1
    rw [hj] at h2
    simp only [Bool.or_eq_true] at h2
    rcases h2 with h2 | h2 | h2
    · have := Nat.ble_eq.mp h2; omega
    · exact h2
    · exact absurd (waits_of h2) hw
theorem closed_upTo (h : okB md ops qs = true) {k : Nat} (hk : k ≤ ops.size) : Closed md ops (upTo ops.size k) := by
  intro j o ho hl e he hb
  have hj : j < ops.size := (Array.getElem?_eq_some_iff.1 ho).1
  have h1 := (okB_spec h ho).1 e he hb
  rw [upTo_get hk] at hl ⊢
  by_cases hjk : j < k
  · rw [if_pos (by omega)]
  · rw [if_neg hjk, if_pos hj] at hl
    cases hl
theorem any_of_run {K : Act → World → Prop} (hI : ∀ u n, I u → I (u.drewN n)) (h : okB md ops qs = true) : ∀ (l : List Oper) (k : Nat) (a : Act) (w : World), k + l.length = ops.size → (∀ j, l[j]? = ops[k + j]?) →
    Run P ops qs I K l a w → LAny P md ops qs I (fun a w => ∀ n, K a (w.drewN n)) l.length (upTo ops.size k) a w
  | [], k, a, w, hk, _, hr => by
    refine ⟨?_, hr⟩
    apply List.eq_nil_iff_forall_not_mem.2
    intro j hj
    obtain ⟨h0, o, ho, _⟩ := mem_ready.1 hj
    have hj' : j < ops.size := (Array.getElem?_eq_some_iff.1 ho).1
    rw [upTo_get (by omega), if_pos (by simp at hk; omega)] at h0
    cases h0
  | o :: l, k, a, w, hk, hl, hr => by
    have hk' : k < ops.size := by simp at hk; omega
    have ho : ops[k]? = some o := by simpa using (hl 0).symm
    refine first ho (Region.noSelect_spec (by simp only [okB, Bool.and_eq_true] at h; exact h.1)) (okB_spec h ho).2 l.length _ a w (closed_upTo h (by omega)) (fun i hi => by rw [upTo_get (by omega), if_pos hi]) ?_ ?_
    · refine mem_ready.2 ⟨by rw [upTo_get (by omega), if_neg (by omega), if_pos hk'], o, ho, fun e he hb => ?_⟩
      rw [upTo_get (by omega), if_pos ((okB_spec h ho).1 e he hb)]
    · rw [upTo_set hk']
      unfold LOp
      rw [ho]
      exact LStep.mono (fun a' w' h' => any_of_run hI h l (k + 1) a' w' (by simp at hk; omega) (fun j => by have := hl (j + 1); simpa [Nat.add_assoc, Nat.add_comm 1 j] using this) h') hr

/-- what holds of every order, of any world that is w but for draws -/
theorem any_sound {K : Act → World → Prop} {Q : Exit → Act → World → Prop} (hI : ∀ u n, I u → I (u.drewN n)) (hQ : ∀ a w, K a w → ∀ u, CW w u → Q .normal a u) :
    ∀ (f : Nat) (listed : Array Bool) (a : Act) (w u : World), CW w u → I w → LAny P md ops qs I K f listed a w → wpAny P md ops Q f listed a u
  | 0, _, _, _, _, hu, _, h => ⟨h.1, hQ _ _ h.2 _ hu⟩
  | f + 1, listed, a, w, u, hu, hw0, h => by
    refine ⟨fun h0 => hQ _ _ (h.1 h0) _ hu, fun i hi => ?_⟩
    have hIu : I u := by obtain ⟨n, rfl⟩ := hu; exact hI w n hw0
    have h1 := h.2 i hi
    unfold LOp at h1
    unfold wpOp
    split
    · rename_i ho
      rw [ho] at h1
      exact any_sound hI hQ f _ _ _ _ hu hw0 h1
    · rename_i o ho
      rw [ho] at h1
      dsimp only at h1
      unfold LStep at h1
      split
      · rename_i hw
        rw [if_pos hw] at h1
        left
        split at h1
        · obtain ⟨v, h2, h3⟩ := h1
          unfold Oper.wp
          rw [h2 u]
          exact any_sound hI hQ f _ _ _ _ hu hw0 h3
        · split at h1
          · exact Oper.wp_of_quiet (C := CW w) hu (fun a' u' hu' hk => any_sound hI hQ f _ _ _ _ hu' hw0 hk) h1
          · split at h1
            · obtain ⟨v, h2, h3⟩ := h1
              unfold Oper.wp
              rw [h2 u hIu]
              exact any_sound hI hQ f _ _ _ _ hu hw0 h3
            · obtain ⟨n, rfl⟩ := hu
              exact wp_of_F (Oper.wp_mono (fun a' w' hk => any_sound hI hQ f _ _ _ _ (CW.refl w') hk.1 hk.2) (h1 n))
      · rename_i hw
        rw [if_neg hw] at h1
        exact any_sound hI hQ f _ _ _ _ hu hw0 h1

/-- A REGION THAT DRAWS ITS ORDER, WALKED IN THE ORDER OF THE TEXT, FACTS HELD ALL ALONG -/
theorem wp_region_lex {id : Nat} {Q : Exit → Act → World → Prop} {a : Act} {w : World} {l : List Oper} (qs : List FuncId) (I : World → Prop) (hI : ∀ u n, I u → I (u.drewN n)) (h0 : I w) (hm : P.follows .mixedOrders = true) (hB : okB .any l.toArray qs = true)
    (h : Run P l.toArray qs I (fun a' w' => Q .normal a' w') l a w.drew) : (Code.region id l.toArray true).wp P Q a w := by
  refine wp_region_any hm ?_
  have H := any_of_run hI hB l 0 a w.drew (by simp) (fun j => by simp) h
  rw [upTo_zero] at H
  have H2 := any_sound (Q := Q) hI (fun a w hk u hu => by obtain ⟨n, rfl⟩ := hu; exact hk n) _ _ _ _ _ (CW.refl _) (show I w.drew from hI w 1 h0) H
  simpa using H2

/-! ### THE STEPS OF THE WALK -/
theorem run_nil {K : Act → World → Prop} {a : Act} {w : World} (h : ∀ n, K a (w.drewN n)) : Run P ops qs I K [] a w := h
theorem run_free {K : Act → World → Prop} {o : Oper} {rest : List Oper} {a : Act} {w : World} {v : Value} (hc : cls qs o = 0) (hw : Region.wanted o (yielded ops a.tmps) = true)
    (hv : ∀ u, (execOp a.eval o).run P u = .ok (.value v) u) (h : Run P ops qs I K rest (a.put o.dst v) w) : Run P ops qs I K (o :: rest) a w := by
  show LStep P ops qs I o (Run P ops qs I K rest) a w
  unfold LStep
  rw [if_pos hw, if_pos hc]
  exact ⟨v, hv, h⟩
theorem run_skip {K : Act → World → Prop} {o : Oper} {rest : List Oper} {a : Act} {w : World} (hw : Region.wanted o (yielded ops a.tmps) = false)
    (h : Run P ops qs I K rest (a.put o.dst undef) w) : Run P ops qs I K (o :: rest) a w := by
  show LStep P ops qs I o (Run P ops qs I K rest) a w
  unfold LStep
  rw [if_neg (by rw [hw]; simp)]
  exact h
theorem run_load {K : Act → World → Prop} {o : Oper} {rest : List Oper} {a : Act} {w : World} {v : Value} (hc : cls qs o = 4) (hw : Region.wanted o (yielded ops a.tmps) = true)
    (hv : ∀ u, I u → (execOp a.eval o).run P u = .ok (.value v) u) (h : Run P ops qs I K rest (a.put o.dst v) w) : Run P ops qs I K (o :: rest) a w := by
  show LStep P ops qs I o (Run P ops qs I K rest) a w
  unfold LStep
  rw [if_pos hw, if_neg (by rw [hc]; decide), if_neg (by rw [hc]; decide), if_pos hc]
  exact ⟨v, hv, h⟩
theorem run_call {K : Act → World → Prop} {o : Oper} {rest : List Oper} {a : Act} {w : World} {v : Value} {f : FuncId} {args : Array Value} (hc : cls qs o = 1) (hw : Region.wanted o (yielded ops a.tmps) = true)
    (hv : ∀ u, (execOp a.eval o).run P u = .ok (.enter f args) u) (hcall : ∀ n, Calls P f args (w.drewN n) fun e w' => e = .returned v ∧ ∃ k, w' = (w.drewN n).drewN k)
    (h : Run P ops qs I K rest (a.put o.dst v) w) : Run P ops qs I K (o :: rest) a w := by
  show LStep P ops qs I o (Run P ops qs I K rest) a w
  unfold LStep
  rw [if_pos hw, if_neg (by rw [hc]; decide), if_pos hc]
  refine ⟨v, fun u hu => ?_, h⟩
  obtain ⟨n, rfl⟩ := hu
  unfold Oper.quietAt
  rw [hv _]
  refine ⟨rfl, (hcall n).mono fun e w' he => ?_⟩
  obtain ⟨he, k, rfl⟩ := he
  exact ⟨he, n + k, by simp⟩
theorem run_eff {K : Act → World → Prop} {o : Oper} {rest : List Oper} {a : Act} {w : World} (hc : cls qs o = 2) (hw : Region.wanted o (yielded ops a.tmps) = true)
    (h : ∀ (n : Nat) (K' : Act → World → Prop), (∀ a' w', I w' → Run P ops qs I K rest a' w' → K' a' w') → o.wp P a (w.drewN n) K' F) : Run P ops qs I K (o :: rest) a w := by
  show LStep P ops qs I o (Run P ops qs I K rest) a w
  unfold LStep
  rw [if_pos hw, if_neg (by rw [hc]; decide), if_neg (by rw [hc]; decide), if_neg (by rw [hc]; decide)]
  exact fun n => h n _ (fun _ _ h1 h2 => ⟨h1, h2⟩)
end
end Go.Proofs.YtjfgfoeenajneaaGreatDoor.Lex5
namespace Go.Proofs.YtjfgfoeenajneaaGreatDoor.Lex6
open Go Go.Proofs.YtjfgfoeenajneaaGreatDoor.Lex5
open Go.Proofs.YtjfgfoeenajneaaGreatDoor.Lex (CW CW.refl wp_some F letsOut_F Waits waits_of waitsB Closed wp_of_F)

section
variable {P : Program} {ops : Array Oper} {qs : List FuncId} {md : Region.Mode} {I : World → Prop}

theorem unlisted_of {listed : Array Bool} {i j : Nat} (h : (listed.setIfInBounds j true).getD i true = false) : listed.getD i true = false := by
  by_cases hij : i = j
  · subst hij
    rcases Nat.lt_or_ge i listed.size with h' | h'
    · simp [h'] at h
    · rw [Array.setIfInBounds_eq_of_size_le h'] at h; exact h
  · rw [getD_set_ne true (Ne.symm hij)] at h; exact h

/-- number k may be taken first, if whatever else might come up ahead of it may change places with it -/
theorem first {K : Act → World → Prop} {k : Nat} {ok : Oper} (hk : ops[k]? = some ok) (hsel : ∀ (j : Nat) (o : Oper) cs b, ops[j]? = some o → o.op ≠ .select cs b) :
    ∀ (fuel : Nat) (listed : Array Bool) (a : Act) (w : World), Closed md ops listed →
      (∀ (j : Nat) (oj : Oper), ops[j]? = some oj → listed.getD j true = false → j ≠ k → ¬ Waits md ops j k → commB ops qs ok oj = true) → k ∈ Region.ready md ops listed →
      LOp P ops qs I k (LAny P md ops qs I K fuel (listed.setIfInBounds k true)) a w → LAny P md ops qs I K (fuel + 1) listed a w := by
  intro fuel
  induction fuel with
  | zero =>
    intro listed a w hcl hcomm hr H
    refine ⟨fun h => (by rw [h] at hr; cases hr), fun j hj => ?_⟩
    by_cases hjk : j = k
    · subst hjk; exact H
    · exfalso
      have hj' := ready_mono hj hjk
      have hno : ∀ {o : Oper} {a : Act} {w : World}, LStep P ops qs I o (LAny P md ops qs I K 0 (listed.setIfInBounds k true)) a w → Region.ready md ops (listed.setIfInBounds k true) = [] := by
        intro o a w h
        unfold LStep at h
        split at h
        · split at h
          · obtain ⟨_, _, h⟩ := h; exact h.1
          · split at h
            · obtain ⟨_, _, h⟩ := h; exact h.1
            · split at h
              · obtain ⟨_, _, h⟩ := h; exact h.1
              · obtain ⟨_, _, _, h⟩ := wp_some (h 0); exact h.1
        · exact h.1
      have hn : Region.ready md ops (listed.setIfInBounds k true) = [] := by
        unfold LOp at H
        rw [hk] at H
        exact hno H
      rw [hn] at hj'
      cases hj'
  | succ fuel ih =>
    intro listed a w hcl hcomm hr H
    refine ⟨fun h => (by rw [h] at hr; cases hr), fun j hj => ?_⟩
    by_cases hjk : j = k
    · subst hjk; exact H
    · obtain ⟨hjun, oj, hoj, _⟩ := mem_ready.1 hj
      have hc := hcomm j oj hoj hjun hjk (hcl.ready hj hr)
      have H2 : LStep P ops qs I ok (LStep P ops qs I oj (LAny P md ops qs I K fuel ((listed.setIfInBounds k true).setIfInBounds j true))) a w := by
        unfold LOp at H
        rw [hk] at H
        refine LStep.mono (fun a' w' h => ?_) H
        have := h.2 j (ready_mono hj hjk)
        unfold LOp at this
        rw [hoj] at this
        exact this
      have H3 := exchange hc (fun cs b => hsel k ok cs b hk) (fun cs b => hsel j oj cs b hoj) H2
      unfold LOp
      rw [hoj]
      refine LStep.mono (fun a' w' h => ?_) H3
      refine ih (listed.setIfInBounds j true) a' w' (hcl.set hj) (fun i oi hoi hi => hcomm i oi hoi (unlisted_of hi)) (ready_mono hr (Ne.symm hjk)) ?_
      rw [Array.setIfInBounds_comm _ _ hjk]
      unfold LOp
      rw [hk]
      exact h

/-- the closed looks at a step -/
def closedB (md : Region.Mode) (ops : Array Oper) (listed : Array Bool) : Bool := (List.range ops.size).all fun j => match ops[j]? with
  | none => true
  | some o => !listed.getD j false || o.after.all fun e => !Region.binds md e || listed.getD e.on false
theorem closedB_spec {listed : Array Bool} (h : closedB md ops listed = true) : Closed md ops listed := by
  intro j o ho hl e he hb
  simp only [closedB, List.all_eq_true, List.mem_range] at h
  have h1 := h j (Array.getElem?_eq_some_iff.1 ho).1
  rw [ho] at h1
  simp only [hl, Bool.not_true, Bool.false_or] at h1
  have h2 := Array.all_eq_true_iff_forall_mem.1 h1 e he
  simpa [hb] using h2
def takeB (md : Region.Mode) (ops : Array Oper) (qs : List FuncId) (listed : Array Bool) (k : Nat) : Bool :=
  Region.noSelect ops && closedB md ops listed && (Region.ready md ops listed).contains k && (List.range ops.size).all fun j => j == k || listed.getD j true || match ops[k]?, ops[j]? with
    | some ok, some oj => commB ops qs ok oj || waitsB md ops ops.size j k
    | _, _ => false
theorem take {K : Act → World → Prop} {fuel : Nat} {listed : Array Bool} {a : Act} {w : World} {o : Oper} (k : Nat) (hk : ops[k]? = some o) (hB : takeB md ops qs listed k = true)
    (H : LStep P ops qs I o (LAny P md ops qs I K fuel (listed.setIfInBounds k true)) a w) : LAny P md ops qs I K (fuel + 1) listed a w := by
  simp only [takeB, Bool.and_eq_true, List.all_eq_true, List.mem_range, List.contains_iff_mem] at hB
  obtain ⟨⟨⟨h1, h2⟩, h3⟩, h4⟩ := hB
  refine first hk (Region.noSelect_spec h1) fuel listed a w (closedB_spec h2) (fun j oj hj hl hne hw => ?_) h3 ?_
  · have h5 := h4 j (Array.getElem?_eq_some_iff.1 hj).1
    rw [hk, hj] at h5
    simp only [Bool.or_eq_true, beq_iff_eq] at h5
    rcases h5 with (h5 | h5) | h5 | h5
    · exact absurd h5 hne
    · rw [h5] at hl; cases hl
    · exact h5
    · exact absurd (waits_of h5) hw
  · unfold LOp
    rw [hk]
    exact H
/-- two are ready: both orders -/
theorem both {K : Act → World → Prop} {fuel : Nat} {listed : Array Bool} {a : Act} {w : World} {oi oj : Oper} (i j : Nat) (hi : ops[i]? = some oi) (hj : ops[j]? = some oj) (hr : Region.ready md ops listed = [i, j])
    (H1 : LStep P ops qs I oi (LAny P md ops qs I K fuel (listed.setIfInBounds i true)) a w) (H2 : LStep P ops qs I oj (LAny P md ops qs I K fuel (listed.setIfInBounds j true)) a w) : LAny P md ops qs I K (fuel + 1) listed a w := by
  refine ⟨fun h => (by rw [hr] at h; cases h), fun k hk => ?_⟩
  rw [hr] at hk
  simp only [List.mem_cons, List.not_mem_nil, or_false] at hk
  unfold LOp
  rcases hk with rfl | rfl
  · rw [hi]; exact H1
  · rw [hj]; exact H2
theorem one {K : Act → World → Prop} {fuel : Nat} {listed : Array Bool} {a : Act} {w : World} {oi : Oper} (i : Nat) (hi : ops[i]? = some oi) (hr : Region.ready md ops listed = [i])
    (H1 : LStep P ops qs I oi (LAny P md ops qs I K fuel (listed.setIfInBounds i true)) a w) : LAny P md ops qs I K (fuel + 1) listed a w := by
  refine ⟨fun h => (by rw [hr] at h; cases h), fun k hk => ?_⟩
  rw [hr] at hk
  simp only [List.mem_cons, List.not_mem_nil, or_false] at hk
  unfold LOp
  subst hk
  rw [hi]; exact H1
theorem done {K : Act → World → Prop} {listed : Array Bool} {a : Act} {w : World} (hr : Region.ready md ops listed = []) (h : K a w) : LAny P md ops qs I K 0 listed a w := ⟨hr, h⟩

/-- A REGION THAT DRAWS ITS ORDER, FACTS HELD ALL ALONG -/
theorem wp_region_tree {id : Nat} {Q : Exit → Act → World → Prop} {a : Act} {w : World} {l : List Oper} (qs : List FuncId) (f : Nat) (hf : l.length = f) (I : World → Prop) (hI : ∀ u n, I u → I (u.drewN n)) (h0 : I w) (hm : P.follows .mixedOrders = true)
    (h : LAny P .any l.toArray qs I (fun a' w' => ∀ n, Q .normal a' (w'.drewN n)) f (Array.replicate f false) a w.drew) : (Code.region id l.toArray true).wp P Q a w := by
  subst hf
  refine wp_region_any hm ?_
  have H2 := any_sound (Q := Q) hI (fun a w hk u hu => by obtain ⟨n, rfl⟩ := hu; exact hk n) _ _ _ _ _ (CW.refl _) (show I w.drew from hI w 1 h0) h
  simpa using H2

/-- the same, with a cut behind it -/
theorem wp_region_cut {id : Nat} {Q : Exit → Act → World → Prop} {a : Act} {w : World} {l : List Oper} (qs : List FuncId) (f : Nat) (hf : l.length = f) (I : World → Prop) (hI : ∀ u n, I u → I (u.drewN n)) (h0 : I w) (hm : P.follows .mixedOrders = true)
    (R : Act → Act → World → Prop) (h : LAny P .any l.toArray qs I (fun a' w' => ∀ n, R a a' (w'.drewN n)) f (Array.replicate f false) a w.drew) (hq : ∀ a' w', R a a' w' → Q .normal a' w') : (Code.region id l.toArray true).wp P Q a w := by
  subst hf
  refine wp_region_any hm ?_
  have H2 := any_sound (Q := Q) hI (fun a' w' hk u hu => by obtain ⟨n, rfl⟩ := hu; exact hq _ _ (hk n)) _ _ _ _ _ (CW.refl _) (show I w.drew from hI w 1 h0) h
  simpa using H2

theorem at_drop {l : List Oper} {k : Nat} {o : Oper} {r : List Oper} (h : l.drop k = o :: r) : l.toArray[k]? = some o := by
  rw [List.getElem?_toArray, ← Nat.add_zero k, ← List.getElem?_drop, h]
  rfl
theorem takeL {K : Act → World → Prop} {fuel : Nat} {listed : Array Bool} {a : Act} {w : World} {l r : List Oper} {o : Oper} (k : Nat) (hk : l.drop k = o :: r) (hB : takeB md l.toArray qs listed k = true)
    (H : LStep P l.toArray qs I o (LAny P md l.toArray qs I K fuel (listed.setIfInBounds k true)) a w) : LAny P md l.toArray qs I K (fuel + 1) listed a w := take k (at_drop hk) hB H
theorem bothL {K : Act → World → Prop} {fuel : Nat} {listed : Array Bool} {a : Act} {w : World} {l r r' : List Oper} {oi oj : Oper} (i j : Nat) (hi : l.drop i = oi :: r) (hj : l.drop j = oj :: r') (hr : Region.ready md l.toArray listed = [i, j])
    (H1 : LStep P l.toArray qs I oi (LAny P md l.toArray qs I K fuel (listed.setIfInBounds i true)) a w) (H2 : LStep P l.toArray qs I oj (LAny P md l.toArray qs I K fuel (listed.setIfInBounds j true)) a w) : LAny P md l.toArray qs I K (fuel + 1) listed a w :=
  both i j (at_drop hi) (at_drop hj) hr H1 H2
theorem oneL {K : Act → World → Prop} {fuel : Nat} {listed : Array Bool} {a : Act} {w : World} {l r : List Oper} {oi : Oper} (i : Nat) (hi : l.drop i = oi :: r) (hr : Region.ready md l.toArray listed = [i])
    (H1 : LStep P l.toArray qs I oi (LAny P md l.toArray qs I K fuel (listed.setIfInBounds i true)) a w) : LAny P md l.toArray qs I K (fuel + 1) listed a w := one i (at_drop hi) hr H1

/-! ### THE STEPS -/
theorem free_ {K : Act → World → Prop} {o : Oper} {a : Act} {w : World} {v : Value} (hc : cls qs o = 0) (hw : Region.wanted o (yielded ops a.tmps) = true)
    (hv : ∀ u, (execOp a.eval o).run P u = .ok (.value v) u) (h : K (a.put o.dst v) w) : LStep P ops qs I o K a w := by
  unfold LStep
  rw [if_pos hw, if_pos hc]
  exact ⟨v, hv, h⟩
theorem skip_ {K : Act → World → Prop} {o : Oper} {a : Act} {w : World} (hw : Region.wanted o (yielded ops a.tmps) = false) (h : K (a.put o.dst undef) w) : LStep P ops qs I o K a w := by
  unfold LStep
  rw [if_neg (by rw [hw]; simp)]
  exact h
theorem load_ {K : Act → World → Prop} {o : Oper} {a : Act} {w : World} {v : Value} (hc : cls qs o = 4) (hw : Region.wanted o (yielded ops a.tmps) = true)
    (hv : ∀ u, I u → (execOp a.eval o).run P u = .ok (.value v) u) (h : K (a.put o.dst v) w) : LStep P ops qs I o K a w := by
  unfold LStep
  rw [if_pos hw, if_neg (by rw [hc]; decide), if_neg (by rw [hc]; decide), if_pos hc]
  exact ⟨v, hv, h⟩
theorem eff_ {K : Act → World → Prop} {o : Oper} {a : Act} {w : World} (hc : cls qs o = 2) (hw : Region.wanted o (yielded ops a.tmps) = true)
    (h : ∀ (n : Nat) (K' : Act → World → Prop), (∀ a' w', I w' → K a' w' → K' a' w') → o.wp P a (w.drewN n) K' F) : LStep P ops qs I o K a w := by
  unfold LStep
  rw [if_pos hw, if_neg (by rw [hc]; decide), if_neg (by rw [hc]; decide), if_neg (by rw [hc]; decide)]
  exact fun n => h n _ (fun _ _ h1 h2 => ⟨h1, h2⟩)
/-- a call that makes memory -/
theorem wp_call {o : Oper} {a : Act} {w : World} {K : Act → World → Prop} {f : FuncId} {args : Array Value} {Post : Ending → World → Prop} (hv : (execOp a.eval o).run P w = .ok (.enter f args) w)
    (hcall : Calls P f args w Post) (h : ∀ e w', Post e w' → ∃ v, e = .returned v ∧ K (a.put o.dst v) w') : o.wp P a w K F := by
  unfold Oper.wp
  rw [hv, Oper.upon_enter]
  refine hcall.mono fun e w' hp => ?_
  obtain ⟨v, rfl, hk⟩ := h e w' hp
  exact hk
end
end Go.Proofs.YtjfgfoeenajneaaGreatDoor.Lex6
