/- Frames: the document's reading: sof. -/
import Derived.Test.YtjfgfoeenajneaaGreatDoorGA7
namespace Go.Proofs.YtjfgfoeenajneaaGreatDoor.Sg
open Go.RowKit

/-- component k of the bytes behind the head -/
def cAt (m : List UInt8) (k : Nat) : CompM := ⟨nb m (3 * k), nb m (3 * k + 1) / 16, nb m (3 * k + 1) % 16, nb m (3 * k + 2)⟩
theorem cAt_next (a b c : UInt8) (m : List UInt8) (k : Nat) : cAt (a :: b :: c :: m) (k + 1) = cAt m k := by
  unfold cAt
  have h : ∀ i, nb (a :: b :: c :: m) (i + 3) = nb m i := fun i => rfl
  rw [show 3 * (k + 1) = 3 * k + 3 by omega, h, show 3 * k + 3 + 1 = (3 * k + 1) + 3 by omega, h, show 3 * k + 3 + 2 = (3 * k + 2) + 3 by omega, h]
theorem compsM_eq : ∀ (c : Nat) (m : List UInt8), m.length = 3 * c → compsM m = (List.range c).map (cAt m)
  | 0, m, h => by
    have : m = [] := List.eq_nil_of_length_eq_zero (by omega)
    subst this
    rfl
  | c + 1, m, h => by
    match m, h with
    | a :: b :: d :: m, h =>
      have ih := compsM_eq c m (by simp at h; omega)
      rw [compsM, ih, List.range_succ_eq_map, List.map_cons, List.map_map]
      congr 1
      all_goals (try (apply List.map_congr_left; intro k _; exact (cAt_next a b d m k).symm))
def cTo (m : List UInt8) (k : Nat) : List CompM := (List.range k).map (cAt m)
theorem cTo_next (m : List UInt8) (k : Nat) : cTo m (k + 1) = cTo m k ++ [cAt m k] := by unfold cTo; rw [List.range_succ, List.map_append]; rfl
theorem cTo_length (m : List UInt8) (k : Nat) : (cTo m k).length = k := by simp [cTo]
theorem cTo_lt (m : List UInt8) (k : Nat) : ∀ c ∈ cTo m k, c.id < 256 ∧ c.h < 256 ∧ c.v < 256 ∧ c.q < 256 := by
  intro c hc
  unfold cTo at hc
  rw [List.mem_map] at hc
  obtain ⟨j, _, rfl⟩ := hc
  have h1 := nb_lt m (3 * j)
  have h2 := nb_lt m (3 * j + 1)
  have h3 := nb_lt m (3 * j + 2)
  unfold cAt
  dsimp only
  omega
theorem flat4_length (l : List CompM) : (l.flatMap compC).length = l.length * 4 := by
  induction l with
  | nil => rfl
  | cons c l ih => rw [List.flatMap_cons, List.length_append, ih]; simp [compC]; omega
theorem infoC : (Tryz.prog.info? 90).map (fun i => (i.zero, i.size, i.bytes)) = some (some (.agg #[.int .u8 0, .int .u8 0, .int .u8 0, .int .u8 0]), 4, 4) := by kernel_rfl
/-- what the document reads a frame as: the error, or the components -/
def sofM (l : List UInt8) : Nat :=
  if l.length ≠ 6 + 3 * nb l 5 then 152 else if nb l 0 ≠ 8 then 158 else framedM (nb2 l 3 : Nat) (nb2 l 1 : Nat) (cTo (l.drop 6) (nb l 5))
def SofP (code d : Nat) (l : List UInt8) (w : World) (e : Ending) (w' : World) : Prop :=
  if sofM l = 0 then ∃ v, e = .returned (.tuple #[.agg #[.int .u8 (code : Int), .int .i64 (nb2 l 3 : Nat), .int .i64 (nb2 l 1 : Nat), v], .int .i64 0]) ∧ w'.ownsRow w.heap.size 90 4 v (nb l 5) ((cTo (l.drop 6) (nb l 5)).flatMap compC) ∧ w.grownBy w' (some d)
  else e = .returned (.tuple #[.agg #[.int .u8 0, .int .i64 0, .int .i64 0, .slice none 0 0], .int .i64 (sofM l : Nat)]) ∧ w.grownBy w' (some d)
def FrC (code : Nat) (wd ht : Int) (v : Value) : Array Value := #[.int .u8 (code : Int), .int .i64 wd, .int .i64 ht, v]
set_option maxRecDepth 100000 in
set_option maxHeartbeats 8000000 in
theorem sof_any (code d : Nat) (l : List UInt8) (w : World) (hd : StrAt 123 w d l) (hl : l.length ≤ 4194304) (_hcode : code < 256) :
    Calls Tryz.prog 59 #[.pointer (some ⟨d, 0, none⟩), .int .u8 (code : Int)] w (SofP code d l w) := by
  have hfin0 : ∀ w' c, sofM l = c → c ≠ 0 → w.grownBy w' (some d) → SofP code d l w (.returned (.tuple #[.agg #[.int .u8 0, .int .i64 0, .int .i64 0, .slice none 0 0], .int .i64 (c : Nat)])) w' := fun w' c hc h0 hg => by
    unfold SofP
    rw [hc, if_neg h0]
    exact ⟨rfl, hg⟩
  have HFIN := Lib.hid hfin0; clear hfin0
  have hu1 := Blk.new w 27 #[.int .u8 0, .int .i64 0, .int .i64 0, .slice none 0 0]
  have hd1 := hd.alloc (.cells #[.int .u8 0, .int .i64 0, .int .i64 0, .slice none 0 0] 27)
  have hg1 : w.grownBy (w.alloc (.cells #[.int .u8 0, .int .i64 0, .int .i64 0, .slice none 0 0] 27)) (some d) := grown_alloc (grown_of_below (Below.refl _ _) _) _
  have hdw := hd.lt
  have hs4 : (Tryz.prog.info? 27).map (·.size) = some (#[.int .u8 0, .int .i64 0, .int .i64 0, .slice none 0 0] : Array Value).size := size4
  have HS4 := Lib.hid hs4; clear hs4
  go_enter Tryz.func59, Tryz.ntmps59
  go_upto_region 1 with fail
  generalize (w.alloc (.cells #[.int .u8 0, .int .i64 0, .int .i64 0, .slice none 0 0] 27)) = w1 at hu1 hd1 hg1 ⊢
  generalize hz : w.heap.size = z at hu1 ⊢
  have HZ := Lib.hid hz; clear hz
  have c0 : w1.cell? ⟨d, 0, none⟩ = some (.string (Bs l)) := by rw [hd1.cell]; rfl
  have hz := Bs_size l
  have hdz : z ≠ d := fun e => by have := HZ.out; omega
  go_wp2_with fail
  refine (one_any d l w1 hd1 (by omega)).mono ?_
  rintro e w2 ⟨rfl, hd2, hg2⟩
  have hu2 : Blk w2 z 27 #[.int .u8 0, .int .i64 0, .int .i64 0, .slice none 0 0] := hu1.keeps (hg2.block z hu1.lt (fun e => hdz (by injection e)))
  have hg02 := grown_after hg1 hg2
  clear c0 hz hu1 hd1 hg1 hg2
  clear w1
  go_upto_region 4 with fail
  rw [show (#[.int .u8 (code : Int), .int .i64 0, .int .i64 0, .slice none 0 0] : Array Value) = FrC code 0 0 (.slice none 0 0) from rfl]
  have hq3 : Blk (w2.alloc (.cells (FrC code 0 0 (.slice none 0 0)) 27)) w2.heap.size 27 (FrC code 0 0 (.slice none 0 0)) := Blk.new w2 _ _
  have hg3 : w.grownBy (w2.alloc (.cells (FrC code 0 0 (.slice none 0 0)) 27)) (some d) := grown_alloc hg02 _
  have hd3 : StrAt 123 (w2.alloc (.cells (FrC code 0 0 (.slice none 0 0)) 27)) d (l.drop 1) := hd2.alloc _
  have hu3 : Blk (w2.alloc (.cells (FrC code 0 0 (.slice none 0 0)) 27)) z 27 #[.int .u8 0, .int .i64 0, .int .i64 0, .slice none 0 0] := hu2.alloc _
  have hqd : w2.heap.size ≠ d := by have := hd2.lt; omega
  have hqz : w2.heap.size ≠ z := by have := hu2.lt; omega
  have hqs : w.heap.size ≤ w2.heap.size := hg02.size
  generalize (w2.alloc (.cells (FrC code 0 0 (.slice none 0 0)) 27)) = w3 at hq3 hg3 hd3 hu3 ⊢
  generalize w2.heap.size = q at hq3 hqd hqz hqs ⊢
  clear hd2 hg02 hu2
  clear w2
  go_wp2_with fail
  refine (two_any d (l.drop 1) w3 hd3 (by simp; omega)).mono ?_
  rintro e w4 ⟨rfl, hd4, hg4⟩
  rw [List.drop_drop] at hd4
  rw [nb2_drop, Nat.add_zero]
  have hq4 := hq3.keeps (hg4.block q hq3.lt (fun e => hqd (by injection e)))
  have hu4 := hu3.keeps (hg4.block z hu3.lt (fun e => hdz (by injection e)))
  have hg04 := grown_after hg3 hg4
  clear hq3 hg3 hd3 hu3 hg4
  clear w3
  have f2 := hq4.frozen 2
  have e2 : w4.cell? ⟨q, 2, none⟩ = some (.int .i64 0) := by rw [hq4.cell]; rfl
  go_upto_region 5 with fail
  have hq5 := hq4.set 2 (.int .i64 (nb2 l 1 : Nat))
  rw [show (FrC code 0 0 (.slice none 0 0)).setIfInBounds 2 (.int .i64 (nb2 l 1 : Nat)) = FrC code 0 (nb2 l 1 : Nat) (.slice none 0 0) from rfl] at hq5
  have hd5 := hd4.far (p := ⟨q, 2, none⟩) (fun e => hqd e.symm) (.int .i64 (nb2 l 1 : Nat))
  have hu5 := hu4.far (p := ⟨q, 2, none⟩) (fun e => hqz e.symm) (.int .i64 (nb2 l 1 : Nat))
  have hg5 := grown_write hg04 (p := ⟨q, 2, none⟩) (.inl hqs) (.int .i64 (nb2 l 1 : Nat))
  generalize (w4.setCell ⟨q, 2, none⟩ (.int .i64 (nb2 l 1 : Nat))) = w5 at hq5 hd5 hu5 hg5 ⊢
  clear f2 e2 hq4 hd4 hu4 hg04
  clear w4
  go_wp2_with fail
  refine (two_any d (l.drop 3) w5 hd5 (by simp; omega)).mono ?_
  rintro e w6 ⟨rfl, hd6, hg6⟩
  rw [List.drop_drop] at hd6
  rw [nb2_drop, Nat.add_zero]
  have hq6 := hq5.keeps (hg6.block q hq5.lt (fun e => hqd (by injection e)))
  have hu6 := hu5.keeps (hg6.block z hu5.lt (fun e => hdz (by injection e)))
  have hg06 := grown_after hg5 hg6
  clear hq5 hg5 hd5 hu5 hg6
  clear w5
  have f1 := hq6.frozen 1
  have e1 : w6.cell? ⟨q, 1, none⟩ = some (.int .i64 0) := by rw [hq6.cell]; rfl
  go_upto_region 6 with fail
  have hq7 := hq6.set 1 (.int .i64 (nb2 l 3 : Nat))
  rw [show (FrC code 0 (nb2 l 1 : Nat) (.slice none 0 0)).setIfInBounds 1 (.int .i64 (nb2 l 3 : Nat)) = FrC code (nb2 l 3 : Nat) (nb2 l 1 : Nat) (.slice none 0 0) from rfl] at hq7
  have hd7 := hd6.far (p := ⟨q, 1, none⟩) (fun e => hqd e.symm) (.int .i64 (nb2 l 3 : Nat))
  have hu7 := hu6.far (p := ⟨q, 1, none⟩) (fun e => hqz e.symm) (.int .i64 (nb2 l 3 : Nat))
  have hg7 := grown_write hg06 (p := ⟨q, 1, none⟩) (.inl hqs) (.int .i64 (nb2 l 3 : Nat))
  generalize (w6.setCell ⟨q, 1, none⟩ (.int .i64 (nb2 l 3 : Nat))) = w7 at hq7 hd7 hu7 hg7 ⊢
  clear f1 e1 hq6 hd6 hu6 hg06
  clear w6
  go_wp2_with fail
  refine (one_any d (l.drop 5) w7 hd7 (by simp; omega)).mono ?_
  rintro e w8 ⟨rfl, hd8, hg8⟩
  rw [List.drop_drop] at hd8
  rw [nb_drop, Nat.add_zero]
  have hq8 := hq7.keeps (hg8.block q hq7.lt (fun e => hqd (by injection e)))
  have hu8 := hu7.keeps (hg8.block z hu7.lt (fun e => hdz (by injection e)))
  have hg08 := grown_after hg7 hg8
  clear hq7 hg7 hd7 hu7 hg8
  clear w7
  have hnb := nb_lt l 5
  have hsof : sofM l = (if l.length ≠ 6 + 3 * nb l 5 then 152 else if nb l 0 ≠ 8 then 158 else framedM (nb2 l 3 : Nat) (nb2 l 1 : Nat) (cTo (l.drop 6) (nb l 5))) := rfl
  have hpre := nb_lt l 0
  have hwb := nb2_lt l 3
  have hhb := nb2_lt l 1
  obtain ⟨m, hm⟩ : ∃ m, l.drop 6 = m := ⟨_, rfl⟩
  have hml : m.length = l.length - 6 := by rw [← hm, List.length_drop]
  rw [show l.drop (3 + 2 + 1) = m from hm] at hd8
  rw [hm] at hsof
  have hfinal : ∀ (w' : World) (v : Value), framedM (nb2 l 3 : Nat) (nb2 l 1 : Nat) (cTo m (nb l 5)) = 0 → l.length = 6 + 3 * nb l 5 → nb l 0 = 8 → w'.ownsRow w.heap.size 90 4 v (nb l 5) ((cTo m (nb l 5)).flatMap compC) → w.grownBy w' (some d) → SofP code d l w (.returned (.tuple #[.agg (FrC code (nb2 l 3 : Nat) (nb2 l 1 : Nat) v), .int .i64 0])) w' := fun w' v h1 h2 h3 h4 h5 => by
    unfold SofP
    have h6 : sofM l = 0 := by rw [hsof, if_neg (fun h => h h2), if_neg (fun h => h h3)]; exact h1
    rw [if_pos h6, hm]
    exact ⟨v, rfl, h4, h5⟩
  have HFINAL := Lib.hid hfinal; clear hfinal
  have HSOF := Lib.hid hsof; clear hsof hm
  generalize nb l 5 = c at hnb HSOF HFINAL ⊢
  generalize nb l 0 = p0 at hpre HSOF HFINAL ⊢
  generalize nb2 l 3 = W at hwb HSOF HFINAL hq8 ⊢
  generalize nb2 l 1 = H at hhb HSOF HFINAL hq8 ⊢
  have y1 : IntKind.i64.wrap (3 * (c : Int)) = 3 * (c : Int) := IntWalk.i64_in _ (by omega)
  have y2 : IntKind.i64.wrap (6 + 3 * (c : Int)) = 6 + 3 * (c : Int) := IntWalk.i64_in _ (by omega)
  by_cases h1 : l.length = 6 + 3 * c
  · have h1b : ((l.length : Int) != 6 + 3 * (c : Int)) = false := by simp; omega
    by_cases h2 : p0 = 8
    · have h2b : ((p0 : Int) != 8) = false := by simp; omega
      have hlen : m.length = 3 * c := by omega
      clear hml
      have HLEN := Lib.hid hlen; clear hlen
      have H1 := Lib.hid (And.intro h1 h2)
      have i1 : ¬ ((l.length : Int) ≠ 6 + 3 * (c : Int)) := by omega
      clear h1 h2
      go_wp2_with fail
      go_loopw [10] (fun i wr => ∃ (k : Nat) (v : Value), k ≤ c ∧ i = .int .i64 k ∧ Blk wr q 27 (FrC code W H v) ∧ wr.ownsRow w.heap.size 90 4 v k ((cTo m k).flatMap compC) ∧ StrAt 123 wr d (m.drop (3 * k)) ∧ w.grownBy wr (some d) ∧ Blk wr z 27 #[.int .u8 0, .int .i64 0, .int .i64 0, .slice none 0 0]) (fun i _ => c - (intOf i).toNat)
      case atStart => exact ⟨0, .slice none 0 0, by omega, rfl, hq8, World.ownsRow_nil _ _ _ _, by simpa using hd8, hg08, hu8⟩
      clear hq8 hd8 hg08 hu8
      clear w8
      case round =>
        obtain ⟨k, v, hk, rfl, hq, hown, hd, hg, hu⟩ := hrel
        by_cases hlt : k < c
        · obtain ⟨a, ha⟩ : ∃ a, nb m (3 * k) = a := ⟨_, rfl⟩
          obtain ⟨b, hb⟩ : ∃ b, nb m (3 * k + 1) = b := ⟨_, rfl⟩
          obtain ⟨cc, hcc⟩ : ∃ cc, nb m (3 * k + 2) = cc := ⟨_, rfl⟩
          have la : (a : Int) ≤ 255 := by rw [← ha]; exact nb_lt _ _
          have lb : (b : Int) ≤ 255 := by rw [← hb]; exact nb_lt _ _
          have lc : (cc : Int) ≤ 255 := by rw [← hcc]; exact nb_lt _ _
          obtain ⟨bh, hbh⟩ : ∃ x, b / 16 = x := ⟨_, rfl⟩
          obtain ⟨bl, hbl⟩ : ∃ x, b % 16 = x := ⟨_, rfl⟩
          have g1 : (b : Int) / 16 = (bh : Int) := by omega
          have g2 : (b : Int) % 16 = (bl : Int) := by omega
          have lh : bh < 16 := by omega
          have ll : bl < 16 := by omega
          have hcat : compC (cAt m k) = [.int .u8 (a : Int), .int .u8 (bh : Int), .int .u8 (bl : Int), .int .u8 (cc : Int)] := by unfold compC cAt; rw [ha, hb, hcc, hbh, hbl]
          have HCAT := Lib.hid hcat
          have HB := Lib.hid (And.intro ha (And.intro hb hcc))
          clear hcat ha hb hcc hbh hbl
          go_wp2_with fail
          refine (one_any d (m.drop (3 * k)) wr hd (by simp; have := HLEN.out; omega)).mono ?_
          rintro e w1 ⟨rfl, hd1, gr1⟩
          rw [List.drop_drop] at hd1
          rw [nb_drop, Nat.add_zero, HB.out.1]
          go_wp2_with fail
          refine (one_any d (m.drop (3 * k + 1)) w1 hd1 (by simp; have := HLEN.out; omega)).mono ?_
          rintro e w2 ⟨rfl, hd2, gr2⟩
          rw [List.drop_drop] at hd2
          rw [nb_drop, Nat.add_zero, HB.out.2.1]
          go_wp2_with fail
          refine (one_any d (m.drop (3 * k + 1 + 1)) w2 hd2 (by simp; have := HLEN.out; omega)).mono ?_
          rintro e w3 ⟨rfl, hd3, gr3⟩
          rw [List.drop_drop] at hd3
          rw [nb_drop, Nat.add_zero, show 3 * k + 1 + 1 = 3 * k + 2 from rfl, HB.out.2.2]
          have gr13 := grown_after gr1 (grown_after gr2 gr3)
          have hq3 := hq.keeps (gr13.block q hq.lt (fun e => hqd (by injection e)))
          have hu3 := hu.keeps (gr13.block z hu.lt (fun e => hdz (by injection e)))
          have hown3 := own_grown hown gr13 (.inr fun e => by have := (hown.lt d e).1; omega)
          have hg3 := grown_after hg gr13
          have hqv : v.ownBlock ≠ some q := fun e => by
            obtain ⟨g, cp, cur, hv, _, hb, _⟩ : ∃ g cp cur, v = .slice (some ⟨g, 0, none⟩) k cp ∧ True ∧ wr.heap[g]? = some (.cells cur 90 (0, 0)) ∧ True := by
              rcases hown.2 with ⟨hn, _⟩ | ⟨g, cp, cur, hv, _, hb, _⟩
              · rw [hn] at e; simp [Value.ownBlock] at e
              · exact ⟨g, cp, cur, hv, trivial, hb, trivial⟩
            rw [hv] at e
            simp [Value.ownBlock] at e
            subst e
            exact Blk.ne (show Blk wr g 90 cur from hb) hq (by decide) rfl
          clear gr1 gr2 gr3 hd1 hd2 hd hown hu hq hg
          have e3 : w3.cell? ⟨q, 3, none⟩ = some v := by rw [hq3.cell]; rfl
          obtain ⟨ic, ic1, ic2, ic3, ic4⟩ := info_parts infoC
          have IC := Lib.hid (And.intro ic1 (And.intro ic2 (And.intro ic3 ic4))); clear ic1 ic2 ic3 ic4
          have hsz3 := hg3.size
          go_wp2_with (at_builtin; refine wpList_append_lies _ rfl (.tmp 53) (.tmp 65) 25 rfl w.heap.size 90 ic _ 4 4 Tryz.underlying25 IC.out.1 IC.out.2.1 IC.out.2.2.1 IC.out.2.2.2 rfl (by decide) v k _ rfl (show World.ownsRow _ _ _ _ _ _ _ from hown3.alloc _) ⟨w3.heap.size, 0, none⟩ 1 1 (compC (cAt m k)) rfl (by rw [HCAT.out]; rfl) (show ∀ i u, _ → World.cell? _ _ = _ from fun i u hu => by rw [HCAT.out] at hu; rw [(show (⟨w3.heap.size, 0, none⟩ : Addr).add i = ⟨w3.heap.size, 0 + i, none⟩ from Addr.add_mid _ _ _), (Blk.new w3 90 #[.int .u8 (a : Int), .int .u8 (bh : Int), .int .u8 (bl : Int), .int .u8 (cc : Int)]).cell, Nat.zero_add]; simpa using hu) (by rw [HCAT.out]; intro u hu; simp at hu; rcases hu with rfl | rfl | rfl | rfl <;> rfl) (by decide) (by unfold maxLen; omega) (by omega) (show w.heap.size ≤ (w3.alloc (.cells #[.int .u8 (a : Int), .int .u8 (bh : Int), .int .u8 (bl : Int), .int .u8 (cc : Int)] 90)).heap.size by simp; omega) (w3.heap.size + 1) (show (w3.alloc (.cells #[.int .u8 (a : Int), .int .u8 (bh : Int), .int .u8 (bl : Int), .int .u8 (cc : Int)] 90)).heap.size = _ by simp) ?_; intro gg cap w4 hown4 hgrow4 hat4 hlt4; have hq4 := (hq3.alloc (.cells #[.int .u8 (a : Int), .int .u8 (bh : Int), .int .u8 (bl : Int), .int .u8 (cc : Int)] 90)).grown hgrow4 (fun e => hqv e.symm); have e4 : w4.cell? ⟨q, 3, none⟩ = some v := (by rw [hq4.cell]; rfl); have f4 : w4.frozen? ⟨q, 3, none⟩ = false := hq4.frozen 3)
          have hg4 : w.grownBy w4 (some d) := grown_own (grown_alloc hg3 _) hgrow4 (fun g hg => .inl (hown3.lt g hg).1)
          have hvd : ∀ x, x < w3.heap.size → x < w.heap.size ∨ v.ownBlock ≠ some x → v.ownBlock ≠ some x := fun x _ h e => by
            rcases h with h | h
            · have := (hown3.lt x e).1; omega
            · exact h e
          have hd4 := (hd3.alloc (.cells #[.int .u8 (a : Int), .int .u8 (bh : Int), .int .u8 (bl : Int), .int .u8 (cc : Int)] 90)).grown hgrow4 (fun e => by have := (hown3.lt d e.symm).1; omega)
          have hvz : v.ownBlock ≠ some z := fun e => by
            rcases hown3.2 with ⟨hn, _⟩ | ⟨g, cp, cur, hv, _, hb, _⟩
            · rw [hn] at e; simp [Value.ownBlock] at e
            · rw [hv] at e
              simp [Value.ownBlock] at e
              subst e
              exact Blk.ne (show Blk w3 g 90 cur from hb) hu3 (by decide) rfl
          have hu4 := (hu3.alloc (.cells #[.int .u8 (a : Int), .int .u8 (bh : Int), .int .u8 (bl : Int), .int .u8 (cc : Int)] 90)).grown hgrow4 (fun e => hvz e.symm)
          have hqg : q ≠ gg := by
            rintro rfl
            rcases hat4 with h | h
            · exact hqv h
            · have := hq3.lt; omega
          go_roundw
          case rel =>
            refine ⟨k + 1, .slice (some ⟨gg, 0, none⟩) (k + 1) cap, by omega, by go_num, ?_, ?_, ?_, grown_write hg4 (p := ⟨q, 3, none⟩) (.inl hqs) _, hu4.far (p := ⟨q, 3, none⟩) (fun e => hqz e.symm) _⟩
            · exact hq4.set 3 _
            · rw [cTo_next, List.flatMap_append]
              have h9 : (w4.setCell ⟨q, 3, none⟩ (.slice (some ⟨gg, 0, none⟩) (k + 1) cap)).ownsRow w.heap.size 90 4 (.slice (some ⟨gg, 0, none⟩) (k + 1) cap) (k + 1) _ := ownsRow_setCell_other hown4 (by simp [Value.ownBlock]; exact fun e => hqg e.symm) _
              simpa using h9
            · have h9 := hd4.far (p := ⟨q, 3, none⟩) (fun e => hqd e.symm) (.slice (some ⟨gg, 0, none⟩) (k + 1) cap)
              rw [show 3 * k + 1 + 1 + 1 = 3 * (k + 1) by omega] at h9
              exact h9
          case measure => simp [intOf]; omega
        · obtain rfl : k = c := by omega
          have hfr := HSOF.out
          rw [if_neg (by have := H1.out.1; omega), if_neg (by have := H1.out.2; omega)] at hfr
          have HFR := Lib.hid hfr; clear hfr
          obtain ⟨A, cap, rfl⟩ := own_slice hown
          have hrows := Rows.own hown
          have hs4 : (Tryz.prog.info? 27).map (·.size) = some (FrC code W H (.slice A k cap)).size := size4
          have HS := Lib.hid hs4; clear hs4
          go_wp2_with (refine wpList_load_row rfl _ _ rfl q rfl _ _ _ _ hq Tryz.underlying27 rfl HS.out ?_)
          refine (framed15_any code (W : Int) (H : Int) (cTo m k) A k cap wr hrows (by omega) (cTo_lt m k)).mono ?_
          rintro e w2 ⟨rfl, hb2⟩
          have hq2 := hq.kept hb2
          have hu2 := hu.kept hb2
          have hg2 := grown_after hg (below_grown hb2 _)
          have hown2 := own_grown hown (below_grown hb2 none) (by cases (Value.slice A k cap).ownBlock <;> simp)
          clear hq hu hg hown hd hb2 hrows
          generalize framedM (W : Int) (H : Int) (cTo m k) = fr at HFR HFINAL ⊢
          by_cases hf0 : fr = 0
          · subst hf0
            rw [show ((0 : Nat) : Int) = 0 from rfl]
            have zc0 : w2.cell? ⟨z, 0, none⟩ = some (.int .u8 0) := by rw [hu2.cell]; rfl
            have zf0 := hu2.frozen 0
            have zc1 : w2.cell? ⟨z, 1, none⟩ = some (.int .i64 0) := by rw [hu2.cell]; rfl
            have zf1 := hu2.frozen 1
            have zc2 : w2.cell? ⟨z, 2, none⟩ = some (.int .i64 0) := by rw [hu2.cell]; rfl
            have zf2 := hu2.frozen 2
            have zc3 : w2.cell? ⟨z, 3, none⟩ = some (.slice none 0 0) := by rw [hu2.cell]; rfl
            have zf3 := hu2.frozen 3
            have qc0 : w2.cell? ⟨q, 0, none⟩ = some (.int .u8 (code : Int)) := by rw [hq2.cell]; rfl
            have qc1 : w2.cell? ⟨q, 1, none⟩ = some (.int .i64 (W : Int)) := by rw [hq2.cell]; rfl
            have qc2 : w2.cell? ⟨q, 2, none⟩ = some (.int .i64 (H : Int)) := by rw [hq2.cell]; rfl
            have qc3 : w2.cell? ⟨q, 3, none⟩ = some (.slice A k cap) := by rw [hq2.cell]; rfl
            go_wp2_with fail
            have hrow : Blk _ z 27 (FrC code W H (.slice A k cap)) := (((hu2.set 0 (.int .u8 (code : Int))).set 1 (.int .i64 (W : Int))).set 2 (.int .i64 (H : Int))).set 3 (.slice A k cap)
            refine bodyPost_ret (results_cell_tmp (by rfl) _ _ z 27 _ _ _ _ (by rfl) (by rfl) hrow Tryz.underlying27 rfl HS.out) (by rfl) ?_
            have hvz : (Value.slice A k cap).ownBlock ≠ some z := fun e => by
              rcases hown2.2 with ⟨hn, _⟩ | ⟨g', cp, cur, hv, _, hb, _⟩
              · rw [hn] at e; simp [Value.ownBlock] at e
              · rw [hv] at e
                simp [Value.ownBlock] at e
                subst e
                exact Blk.ne (show Blk w2 g' 90 cur from hb) hu2 (by decide) rfl
            exact HFINAL.out _ _ (by first | rfl | trivial) H1.out.1 H1.out.2 (ownsRow_setCell_other (ownsRow_setCell_other (ownsRow_setCell_other (ownsRow_setCell_other hown2 hvz _) hvz _) hvz _) hvz _) (grown_write (grown_write (grown_write (grown_write hg2 (.inl (by rw [HZ.out]; exact Nat.le_refl _)) _) (.inl (by rw [HZ.out]; exact Nat.le_refl _)) _) (.inl (by rw [HZ.out]; exact Nat.le_refl _)) _) (.inl (by rw [HZ.out]; exact Nat.le_refl _)) _)
          · have hfb : ((fr : Int) != 0) = true := by simp; omega
            have hfc : ¬ (fr : Int) = 0 := by omega
            have zc0 : w2.cell? ⟨z, 0, none⟩ = some (.int .u8 0) := by rw [hu2.cell]; rfl
            have zf0 := hu2.frozen 0
            have zc1 : w2.cell? ⟨z, 1, none⟩ = some (.int .i64 0) := by rw [hu2.cell]; rfl
            have zf1 := hu2.frozen 1
            have zc2 : w2.cell? ⟨z, 2, none⟩ = some (.int .i64 0) := by rw [hu2.cell]; rfl
            have zf2 := hu2.frozen 2
            have zc3 : w2.cell? ⟨z, 3, none⟩ = some (.slice none 0 0) := by rw [hu2.cell]; rfl
            have zf3 := hu2.frozen 3
            go_wp2_with fail
            have hrow : Blk _ z 27 #[.int .u8 0, .int .i64 0, .int .i64 0, .slice none 0 0] := (((hu2.set 0 (.int .u8 0)).set 1 (.int .i64 0)).set 2 (.int .i64 0)).set 3 (.slice none 0 0)
            refine bodyPost_ret (results_cell_tmp (by rfl) _ _ z 27 _ _ _ _ (by rfl) (by rfl) hrow Tryz.underlying27 rfl HS4.out) (by rfl) ?_
            exact HFIN.out _ fr HFR.out hf0 (grown_write (grown_write (grown_write (grown_write hg2 (.inl (by rw [HZ.out]; exact Nat.le_refl _)) _) (.inl (by rw [HZ.out]; exact Nat.le_refl _)) _) (.inl (by rw [HZ.out]; exact Nat.le_refl _)) _) (.inl (by rw [HZ.out]; exact Nat.le_refl _)) _)
    · have h2b : ((p0 : Int) != 8) = true := by simp; omega
      have h2c : ¬ (p0 : Int) = 8 := by omega
      have hr : sofM l = 158 := by rw [HSOF.out, if_neg (by omega), if_pos h2]
      have HR := Lib.hid hr; clear hr
      have zc0 : w8.cell? ⟨z, 0, none⟩ = some (.int .u8 0) := by rw [hu8.cell]; rfl
      have zf0 := hu8.frozen 0
      have zc1 : w8.cell? ⟨z, 1, none⟩ = some (.int .i64 0) := by rw [hu8.cell]; rfl
      have zf1 := hu8.frozen 1
      have zc2 : w8.cell? ⟨z, 2, none⟩ = some (.int .i64 0) := by rw [hu8.cell]; rfl
      have zf2 := hu8.frozen 2
      have zc3 : w8.cell? ⟨z, 3, none⟩ = some (.slice none 0 0) := by rw [hu8.cell]; rfl
      have zf3 := hu8.frozen 3
      go_wp2_with fail
      have hrow : Blk _ z 27 #[.int .u8 0, .int .i64 0, .int .i64 0, .slice none 0 0] := (((hu8.set 0 (.int .u8 0)).set 1 (.int .i64 0)).set 2 (.int .i64 0)).set 3 (.slice none 0 0)
      refine bodyPost_ret (results_cell_tmp (by rfl) _ _ z 27 _ _ _ _ (by rfl) (by rfl) hrow Tryz.underlying27 rfl HS4.out) (by rfl) ?_
      exact HFIN.out _ 158 HR.out (by decide) (grown_write (grown_write (grown_write (grown_write hg08 (.inl (by rw [HZ.out]; exact Nat.le_refl _)) _) (.inl (by rw [HZ.out]; exact Nat.le_refl _)) _) (.inl (by rw [HZ.out]; exact Nat.le_refl _)) _) (.inl (by rw [HZ.out]; exact Nat.le_refl _)) _)
  · have h1b : ((l.length : Int) != 6 + 3 * (c : Int)) = true := by simp; omega
    have h1c : ¬ (l.length : Int) = 6 + 3 * (c : Int) := by omega
    have hr : sofM l = 152 := by rw [HSOF.out, if_pos h1]
    have HR := Lib.hid hr; clear hr
    have zc0 : w8.cell? ⟨z, 0, none⟩ = some (.int .u8 0) := by rw [hu8.cell]; rfl
    have zf0 := hu8.frozen 0
    have zc1 : w8.cell? ⟨z, 1, none⟩ = some (.int .i64 0) := by rw [hu8.cell]; rfl
    have zf1 := hu8.frozen 1
    have zc2 : w8.cell? ⟨z, 2, none⟩ = some (.int .i64 0) := by rw [hu8.cell]; rfl
    have zf2 := hu8.frozen 2
    have zc3 : w8.cell? ⟨z, 3, none⟩ = some (.slice none 0 0) := by rw [hu8.cell]; rfl
    have zf3 := hu8.frozen 3
    go_wp2_with fail
    have hrow : Blk _ z 27 #[.int .u8 0, .int .i64 0, .int .i64 0, .slice none 0 0] := (((hu8.set 0 (.int .u8 0)).set 1 (.int .i64 0)).set 2 (.int .i64 0)).set 3 (.slice none 0 0)
    refine bodyPost_ret (results_cell_tmp (by rfl) _ _ z 27 _ _ _ _ (by rfl) (by rfl) hrow Tryz.underlying27 rfl HS4.out) (by rfl) ?_
    exact HFIN.out _ 152 HR.out (by decide) (grown_write (grown_write (grown_write (grown_write hg08 (.inl (by rw [HZ.out]; exact Nat.le_refl _)) _) (.inl (by rw [HZ.out]; exact Nat.le_refl _)) _) (.inl (by rw [HZ.out]; exact Nat.le_refl _)) _) (.inl (by rw [HZ.out]; exact Nat.le_refl _)) _)
end Go.Proofs.YtjfgfoeenajneaaGreatDoor.Sg
