/- PlaneScript: small functions (made, copied, Map of nothing), and Cut, Lay, At of a plane of ints with lists of Int. -/
import Derived.Test.YtlbocfinjlkebaaRd
import Derived.Test.YtlbocfinjlkebaaPieces
import Derived.Deep.Upon
namespace Go.Proofs.Ytlbocfinjlkebaa.Scr
open Go.RowKit Go.Proofs.Ytlbocfinjlkebaa.Byt Go.Proofs.Ytlbocfinjlkebaa.R12

theorem infoP : (Try.prog.info? 51).map (fun i => (i.zero, i.size, i.bytes)) = some (some (.pointer none), 1, 8) := by kernel_rfl
theorem infoQ : (Try.prog.info? 123).map (fun i => (i.zero, i.size, i.bytes)) = some (some (.pointer none), 1, 8) := by kernel_rfl

/-- an append whose run is known -/
theorem wpList_append_run {P : Program} (w : World) {ops : Array Oper} {rest : List Oper} {o : Oper} {a : Act} {Q : Exit → Act → World → Prop} (hgd : o.guard = none) (s x : Operand) (t : TypeId)
    (ho : o.op = .call { callee := .builtin .append, args := #[s, x], argTypes := #[t, t] }) (v u r : Value) (w1 : World) (hs : a.eval s = v) (hx : a.eval x = u)
    (hr : (Builtin.append_ #[t, t] o.type #[v, u]).run P w = .ok r w1) (h : wpList P ops Q rest (a.put o.dst r) w1) : wpList P ops Q (o :: rest) a w :=
  wpList_plain hgd fun _ hK => by
    unfold Oper.wp execOp
    simp only [ho, resolve, invoke, builtin, Sem.run_bind, Sem.run_pure, Result.andThen_ok, List.map_toArray, List.map_cons, List.map_nil, hs, hx, hr]
    exact hK _ _ h

/-- made: how many samples; 0: there is none -/
def MadeN (w : World) (e : Ending) (w' : World) : Prop := ∃ m : Nat, e = .returned (.int .i64 m) ∧ m ≤ 67108864 ∧ w = w'
set_option maxHeartbeats 2000000 in
theorem made_any (W H : Int) (w : World) : Calls Try.prog 97 #[.int .i64 W, .int .i64 H] w (MadeN w) := by
  by_cases h0 : W < 1
  · go_enter Try.func97, Try.ntmps97
    go_wp2_with fail
    go_ret
    exact ⟨0, rfl, by omega, rfl⟩
  by_cases h1 : H < 1
  · go_enter Try.func97, Try.ntmps97
    go_wp2_with fail
    go_ret
    exact ⟨0, rfl, by omega, rfl⟩
  by_cases h2 : 67108864 < W
  · go_enter Try.func97, Try.ntmps97
    go_wp2_with fail
    go_ret
    exact ⟨0, rfl, by omega, rfl⟩
  by_cases h3 : 67108864 < H
  · go_enter Try.func97, Try.ntmps97
    go_wp2_with fail
    go_ret
    exact ⟨0, rfl, by omega, rfl⟩
  obtain ⟨m, hm⟩ : ∃ m, W * H = m := ⟨_, rfl⟩
  have hb : 0 ≤ m ∧ m ≤ 67108864 * 67108864 := by rw [← hm]; exact ⟨Int.mul_nonneg (by omega) (by omega), Int.mul_le_mul (by omega) (by omega) (by omega) (by omega)⟩
  have wm : IntKind.i64.wrap m = m := IntWalk.i64_in _ (by omega)
  by_cases h5 : 67108864 < m
  · go_enter Try.func97, Try.ntmps97
    go_wp2_with fail
    go_ret
    exact ⟨0, rfl, by omega, rfl⟩
  · obtain ⟨k, rfl⟩ := Int.eq_ofNat_of_zero_le hb.1
    go_enter Try.func97, Try.ntmps97
    go_wp2_with fail
    go_ret
    exact ⟨k, rfl, by omega, rfl⟩

/-- copied: a list of one's own -/
def CopP (w : World) (n : Nat) (zs : List Int) (e : Ending) (w' : World) : Prop := ∃ v, e = .returned v ∧ w'.ownsRow w.heap.size 3 1 v n (zs.map (.int .i64)) ∧ Below w.heap.size w w'
set_option maxHeartbeats 2000000 in
theorem copied_any (A : Option Addr) (n c : Nat) (zs : List Int) (w : World) (hs : Sl w A n (zs.map (.int .i64))) (hn : n ≤ 16777216) (hnc : n ≤ c) :
    Calls Try.prog 109 #[.slice A n c] w (CopP w n zs) := by
  obtain ⟨i0, hi, hz0, hz1, hz2⟩ := info_parts PI.info
  by_cases h0 : n = 0
  · subst h0
    have hzs : zs = [] := by simpa using hs.1
    subst hzs
    have hrun : (Builtin.append_ #[50, 50] 50 #[.slice none 0 0, .slice A 0 c]).run Try.prog w = .ok (.slice none 0 0) w := by
      refine run_append_nothing w _ _ _ _ i0 Try.underlying50 hi none 0 0 (Nat.le_refl _) _ ?_
      cases A with
      | none => exact Src.ofNil _ Try.underlying50 c
      | some a => exact Src.ofSlice _ Try.underlying50 a 0 c [] (by simp) (by simp) (by simp)
    go_enter Try.func109, Try.ntmps109
    go_wp2_with (at_builtin; refine wpList_append_run _ rfl (.tmp 4) (.tmp 5) 50 rfl (.slice none 0 0) (.slice A 0 c) (.slice none 0 0) w rfl rfl hrun ?_)
    go_ret
    exact ⟨_, rfl, World.ownsRow_nil _ _ _ _, Below.refl _ _⟩
  · obtain ⟨b, o, rfl, hcell⟩ := hs.2 (by omega)
    have hl : zs.length = n := by simpa using hs.1
    go_enter Try.func109, Try.ntmps109
    go_wp2_with (at_builtin; refine wpList_append_lies _ rfl (.tmp 4) (.tmp 5) 50 rfl w.heap.size 3 i0 (.int .i64 0) 1 8 Try.underlying50 hi hz0 hz1 hz2 rfl (by decide) (.slice none 0 0) 0 [] rfl (World.ownsRow_nil _ _ _ _) ⟨b, o, none⟩ n c (zs.map (.int .i64)) rfl (by simp [hl]) (news_of_sl (by simp [hl]) hcell) (ints_oneCell .i64 zs) (by omega) (by unfold maxLen; omega) (by omega) (Nat.le_refl _) _ rfl ?_; intro g1 cap1 w2 hown2 hgrow2 hat2 hlt2)
    go_ret
    simp only [Nat.zero_add, List.nil_append] at hown2 ⊢
    exact ⟨_, rfl, hown2, below_of_grown hgrow2⟩

set_option maxHeartbeats 1000000 in
theorem map_nil (f : Value) (w : World) : Calls Try.prog 104 #[.pointer none, f] w fun e w' => e = .returned (.pointer none) ∧ w = w' := by
  go_enter Try.func104, Try.ntmps104
  go_wp2_with fail
  go_ret
  exact ⟨rfl, rfl⟩
theorem nilfn (u : World) : (binOp .eql 105 .nilFunc .nilFunc).run Try.prog u = .ok (.bool true) u := by
  have hu : Try.prog.underlying 105 = some (.func #[3] #[3] false) := by kernel_rfl
  have h1 : (Op.equal 105 .nilFunc .nilFunc).run Try.prog u = .ok true u := by
    unfold Op.equal Op.maxDepth
    rw [show (10000 : Nat) = 9999 + 1 from rfl]
    unfold Op.equalIn
    rw [Sem.run_bind, run_underlying hu]
    rfl
  have h2 : binOp .eql 105 .nilFunc .nilFunc = (do let r ← Op.equal 105 .nilFunc .nilFunc; pure (.bool r)) := rfl
  rw [h2, Sem.run_bind, h1]
  rfl
set_option maxHeartbeats 1000000 in
theorem map_none (b : Nat) (w : World) : Calls Try.prog 104 #[.pointer (some ⟨b, 0, none⟩), .nilFunc] w fun e w' => e = .returned (.pointer none) ∧ w = w' := by
  have hnf := nilfn
  go_enter Try.func104, Try.ntmps104
  go_wp2_with fail
  go_ret
  exact ⟨rfl, rfl⟩

/-- At, Cut and Lay of the program's plane, with lists of Int -/
theorem atI (b g W H c : Nat) (zs : List Int) (x y : Int) (w : World) (hp : PI.PA w b g W H c (zs.map (.int .i64))) :
    Calls Try.prog 35 #[.pointer (some ⟨b, 0, none⟩), .int .i64 x, .int .i64 y] w fun e w' => e = .returned (.tuple #[.int .i64 (atZ zs W H x y), .bool (inB x y W H)]) ∧ ∃ k, w' = w.drewN k := by
  unfold atZ
  cases hb : inB x y W H
  · refine (PI.at_out b g W H c _ x y w hp hb).mono ?_
    rintro e w' ⟨rfl, rfl⟩
    exact ⟨rfl, 0, rfl⟩
  · have h := hb
    unfold inB at h
    simp only [decide_eq_true_eq] at h
    refine (PI.at_in b g W H c _ x y w hp h.1 h.2.1 h.2.2.1 h.2.2.2).mono ?_
    rintro e w' ⟨rfl, k, rfl⟩
    refine ⟨?_, k, rfl⟩
    obtain ⟨m, _, hm, _, hlt⟩ := hp.place h.1 h.2.1 h.2.2.1 h.2.2.2
    have hl : zs.length = W * H := by simpa using hp.len
    unfold smp
    rw [hm, List.getD_eq_getElem?_getD, List.getElem?_map, List.getElem?_eq_getElem (by omega)]
    simp only [if_true, List.getD_eq_getElem?_getD]
    rw [List.getElem?_eq_getElem (by omega)]
    rfl
theorem layI (b g W H c b' g' W' H' c' : Nat) (zs ys : List Int) (x y : Int) (w : World) (hp : PI.PA w b g W H c (zs.map (.int .i64))) (ho : PI.PA w b' g' W' H' c' (ys.map (.int .i64))) (hbb : b' ≠ b) (hgg : g' ≠ g) :
    Calls Try.prog 31 #[.pointer (some ⟨b, 0, none⟩), .pointer (some ⟨b', 0, none⟩), .int .i64 x, .int .i64 y] w (PI.LaidP w b g W H c ((laidZ W H W' H' x y zs ys).map (.int .i64))) := by
  unfold laidZ
  by_cases h : (x : Int) < W ∧ y < H ∧ -(W' : Int) < x ∧ -(H' : Int) < y
  · rw [if_pos h, ← layL_ints]
    exact PI.lay_other b g W H c b' g' W' H' c' _ _ x y w hp ho hbb hgg (ints_oneCell .i64 ys) h.1 h.2.1 h.2.2.1 h.2.2.2
  · rw [if_neg h]
    refine (PI.lay_no b g W H c b' g' W' H' c' _ _ x y w hp ho (by omega)).mono ?_
    rintro e w' ⟨rfl, rfl⟩
    exact ⟨rfl, hp, World.grownBy.refl _ _⟩
theorem laySelf (b g W H c : Nat) (zs : List Int) (x y : Int) (w : World) (hp : PI.PA w b g W H c (zs.map (.int .i64))) :
    Calls Try.prog 31 #[.pointer (some ⟨b, 0, none⟩), .pointer (some ⟨b, 0, none⟩), .int .i64 x, .int .i64 y] w (PI.LaidP w b g W H c ((laidZ W H W H x y zs zs).map (.int .i64))) :=
  selfI b g W H c zs x y w hp
theorem cutI_yes (b g W H c : Nat) (zs : List Int) (x y wd hg : Nat) (w : World) (hp : PI.PA w b g W H c (zs.map (.int .i64))) (h1 : 1 ≤ wd) (h2 : 1 ≤ hg) (h3 : x + wd ≤ W) (h4 : y + hg ≤ H) :
    Calls Try.prog 30 #[.pointer (some ⟨b, 0, none⟩), .int .i64 x, .int .i64 y, .int .i64 wd, .int .i64 hg] w (PI.MadeP w wd hg ((rowsZ W x y wd zs hg).map (.int .i64))) := by
  rw [← rowsI]
  exact PI.cut_yes b g W H c _ x y wd hg w hp (ints_oneCell .i64 zs) h1 h2 h3 h4
end Go.Proofs.Ytlbocfinjlkebaa.Scr
