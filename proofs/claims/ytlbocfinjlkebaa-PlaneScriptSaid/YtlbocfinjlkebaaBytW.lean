/- A plane of bytes and one of ints: each call with its answer in numbers. -/
import Derived.Test.YtlbocfinjlkebaaMap
import Derived.Test.YtlbocfinjlkebaaPlaneP8l
import Derived.Test.YtlbocfinjlkebaaPlanePIl
import Derived.Test.YtlbocfinjlkebaaPlaneP8t
import Derived.Test.YtlbocfinjlkebaaPlanePIt
import Derived.Test.YtlbocfinjlkebaaPlaneP8g
namespace Go.Proofs.Ytlbocfinjlkebaa.Byt
open Go.RowKit

/-- the samples behind a Set -/
def setZ (W H : Nat) (zs : List Int) (x y v : Int) : List Int := if inB x y W H = true then zs.set (y.toNat * W + x.toNat) v else zs
/-- the samples of a plane that is laid over itself -/
def selfZ (W H : Nat) (zs : List Int) (x y : Int) : List Int := if x < W ∧ y < H ∧ -(W : Int) < x ∧ -(H : Int) < y then layZ W H W H x y zs zs else zs
/-- the sample nearest to a place -/
def nearZ (zs : List Int) (W H : Nat) (x y : Int) : Int := zs.getD ((clampI y H).toNat * W + (clampI x W).toNat) 0
theorem near_val (k : IntKind) {zs : List Int} {W H : Nat} (x y : Int) (hl : zs.length = W * H) (hW : 1 ≤ W) (hH : 1 ≤ H) : smp (zs.map (.int k)) W (clampI x W) (clampI y H) = .int k (nearZ zs W H x y) := by
  obtain ⟨h1, h2⟩ := clampI_in x hW
  obtain ⟨h3, h4⟩ := clampI_in y hH
  have h : (clampI y H).toNat * W + (clampI x W).toNat < zs.length := by
    rw [hl, Nat.mul_comm W H]
    have : ((clampI y H).toNat + 1) * W ≤ H * W := Nat.mul_le_mul_right W (by omega)
    rw [Nat.add_mul, Nat.one_mul] at this
    omega
  unfold nearZ smp
  rw [List.getD_eq_getElem?_getD, List.getElem?_map, List.getElem?_eq_getElem h, List.getD_eq_getElem?_getD, List.getElem?_eq_getElem h]
  rfl
/-- every number is a byte -/
def AllB (zs : List Int) : Prop := ∀ z ∈ zs, 0 ≤ z ∧ z ≤ 255
theorem AllB.set {zs : List Int} (h : AllB zs) (W H : Nat) (x y : Int) {v : Int} (h1 : 0 ≤ v) (h2 : v ≤ 255) : AllB (setZ W H zs x y v) := by
  unfold setZ
  split
  · intro z hz
    rcases mem_set hz with h3 | rfl
    · exact h z h3
    · exact ⟨h1, h2⟩
  · exact h
theorem AllB.self {zs : List Int} (h : AllB zs) (W H : Nat) (x y : Int) : AllB (selfZ W H zs x y) := by
  unfold selfZ
  split
  · intro z hz
    rcases mem_layZ hz with h3 | h3
    · exact h z h3
    · exact h z h3
  · exact h
theorem AllB.rows {zs : List Int} (h : AllB zs) (W x y wd k : Nat) : AllB (rowsZ W x y wd zs k) := fun z hz => h z (mem_rowsZ k hz)
theorem AllB.getD {zs : List Int} (h : AllB zs) (k : Nat) : 0 ≤ zs.getD k 0 ∧ zs.getD k 0 ≤ 255 := by
  rw [List.getD_eq_getElem?_getD]
  by_cases hk : k < zs.length
  · rw [List.getElem?_eq_getElem hk]
    exact h _ (List.getElem_mem hk)
  · rw [List.getElem?_eq_none (by omega)]
    simp
theorem AllB.near {zs : List Int} (h : AllB zs) (W H : Nat) (x y : Int) : 0 ≤ nearZ zs W H x y ∧ nearZ zs W H x y ≤ 255 := h.getD _
theorem AllB.ends {zs : List Int} (h : AllB zs) : (0 ≤ (PI.endsL zs).1 ∧ (PI.endsL zs).1 ≤ 255) ∧ (0 ≤ (PI.endsL zs).2.1 ∧ (PI.endsL zs).2.1 ≤ 255) :=
  ends_mem zs (0, 0, false) (fun z => 0 ≤ z ∧ z ≤ 255) ⟨by simp, by simp⟩ h

theorem set8 (b g W H c : Nat) (zs : List Int) (x y v : Int) (w : World) (hp : P8.PA w b g W H c (zs.map (.int .u8))) :
    Calls Try.prog 26 #[.pointer (some ⟨b, 0, none⟩), .int .i64 x, .int .i64 y, .int .u8 v] w fun e w' =>
      e = .returned (.bool (inB x y W H)) ∧ P8.PA w' b g W H c ((setZ W H zs x y v).map (.int .u8)) ∧ w.grownBy w' (some g) := by
  unfold setZ
  cases hb : inB x y W H
  · refine (P8.set_out b g W H c _ x y v w hp hb).mono ?_
    rintro e w' ⟨rfl, rfl⟩
    exact ⟨rfl, hp, World.grownBy.refl _ _⟩
  · have h := hb
    unfold inB at h
    simp only [decide_eq_true_eq] at h
    refine (P8.set_in b g W H c _ x y v w hp h.1 h.2.1 h.2.2.1 h.2.2.2).mono ?_
    rintro e w' ⟨rfl, hp', hg⟩
    rw [set_map] at hp'
    exact ⟨rfl, hp', hg⟩
theorem self8 (b g W H c : Nat) (zs : List Int) (x y : Int) (w : World) (hp : P8.PA w b g W H c (zs.map (.int .u8))) :
    Calls Try.prog 53 #[.pointer (some ⟨b, 0, none⟩), .pointer (some ⟨b, 0, none⟩), .int .i64 x, .int .i64 y] w (P8.LaidP w b g W H c ((selfZ W H zs x y).map (.int .u8))) := by
  unfold selfZ
  by_cases h : (x : Int) < W ∧ y < H ∧ -(W : Int) < x ∧ -(H : Int) < y
  · rw [if_pos h, ← layL_ints]
    exact P8.lay_self b g W H c _ x y w hp (ints_oneCell .u8 zs) h.1 h.2.1 h.2.2.1 h.2.2.2
  · rw [if_neg h]
    refine (P8.lay_no b g W H c b g W H c _ _ x y w hp hp (by omega)).mono ?_
    rintro e w' ⟨rfl, rfl⟩
    exact ⟨rfl, hp, World.grownBy.refl _ _⟩
theorem near8 (b g W H c : Nat) (zs : List Int) (x y : Int) (w : World) (hp : P8.PA w b g W H c (zs.map (.int .u8))) :
    Calls Try.prog 27 #[.pointer (some ⟨b, 0, none⟩), .int .i64 x, .int .i64 y] w fun e w' => e = .returned (.int .u8 (nearZ zs W H x y)) ∧ ∃ q, w' = w.drewN q := by
  refine (P8.near_any b g W H c _ x y w hp).mono ?_
  rintro e w' ⟨rfl, q, rfl⟩
  exact ⟨by rw [near_val .u8 x y (by simpa using hp.len) hp.wide hp.high], q, rfl⟩
theorem tile8 (b g W H c : Nat) (zs : List Int) (x y : Int) (w : World) (hp : P8.PA w b g W H c (zs.map (.int .u8))) :
    Calls Try.prog 60 #[.pointer (some ⟨b, 0, none⟩), .int .i64 x, .int .i64 y] w fun e w' => e = .returned (.agg (tileC (fun j => .int .u8 (nearZ zs W H (tileX x j) (tileY y j))) (.int .u8 0) 64)) ∧ Below w.heap.size w w' := by
  have e : P8.tileV (zs.map (.int .u8)) W H x y = fun j => .int .u8 (nearZ zs W H (tileX x j) (tileY y j)) := by
    funext j
    unfold P8.tileV
    exact near_val .u8 _ _ (by simpa using hp.len) hp.wide hp.high
  refine (P8.tile_any b g W H c _ x y w hp (fun j => ⟨_, by rw [e]⟩)).mono ?_
  rintro e' w' ⟨rfl, hb⟩
  exact ⟨by rw [e], hb⟩

theorem setI (b g W H c : Nat) (zs : List Int) (x y v : Int) (w : World) (hp : PI.PA w b g W H c (zs.map (.int .i64))) :
    Calls Try.prog 52 #[.pointer (some ⟨b, 0, none⟩), .int .i64 x, .int .i64 y, .int .i64 v] w fun e w' =>
      e = .returned (.bool (inB x y W H)) ∧ PI.PA w' b g W H c ((setZ W H zs x y v).map (.int .i64)) ∧ w.grownBy w' (some g) := by
  unfold setZ
  cases hb : inB x y W H
  · refine (PI.set_out b g W H c _ x y v w hp hb).mono ?_
    rintro e w' ⟨rfl, rfl⟩
    exact ⟨rfl, hp, World.grownBy.refl _ _⟩
  · have h := hb
    unfold inB at h
    simp only [decide_eq_true_eq] at h
    refine (PI.set_in b g W H c _ x y v w hp h.1 h.2.1 h.2.2.1 h.2.2.2).mono ?_
    rintro e w' ⟨rfl, hp', hg⟩
    rw [set_map] at hp'
    exact ⟨rfl, hp', hg⟩
theorem selfI (b g W H c : Nat) (zs : List Int) (x y : Int) (w : World) (hp : PI.PA w b g W H c (zs.map (.int .i64))) :
    Calls Try.prog 31 #[.pointer (some ⟨b, 0, none⟩), .pointer (some ⟨b, 0, none⟩), .int .i64 x, .int .i64 y] w (PI.LaidP w b g W H c ((selfZ W H zs x y).map (.int .i64))) := by
  unfold selfZ
  by_cases h : (x : Int) < W ∧ y < H ∧ -(W : Int) < x ∧ -(H : Int) < y
  · rw [if_pos h, ← layL_ints]
    exact PI.lay_self b g W H c _ x y w hp (ints_oneCell .i64 zs) h.1 h.2.1 h.2.2.1 h.2.2.2
  · rw [if_neg h]
    refine (PI.lay_no b g W H c b g W H c _ _ x y w hp hp (by omega)).mono ?_
    rintro e w' ⟨rfl, rfl⟩
    exact ⟨rfl, hp, World.grownBy.refl _ _⟩
theorem nearI (b g W H c : Nat) (zs : List Int) (x y : Int) (w : World) (hp : PI.PA w b g W H c (zs.map (.int .i64))) :
    Calls Try.prog 59 #[.pointer (some ⟨b, 0, none⟩), .int .i64 x, .int .i64 y] w fun e w' => e = .returned (.int .i64 (nearZ zs W H x y)) ∧ ∃ q, w' = w.drewN q := by
  refine (PI.near_any b g W H c _ x y w hp).mono ?_
  rintro e w' ⟨rfl, q, rfl⟩
  exact ⟨by rw [near_val .i64 x y (by simpa using hp.len) hp.wide hp.high], q, rfl⟩
theorem tileI (b g W H c : Nat) (zs : List Int) (x y : Int) (w : World) (hp : PI.PA w b g W H c (zs.map (.int .i64))) :
    Calls Try.prog 61 #[.pointer (some ⟨b, 0, none⟩), .int .i64 x, .int .i64 y] w fun e w' => e = .returned (.agg (tileC (fun j => .int .i64 (nearZ zs W H (tileX x j) (tileY y j))) (.int .i64 0) 64)) ∧ Below w.heap.size w w' := by
  have e : PI.tileV (zs.map (.int .i64)) W H x y = fun j => .int .i64 (nearZ zs W H (tileX x j) (tileY y j)) := by
    funext j
    unfold PI.tileV
    exact near_val .i64 _ _ (by simpa using hp.len) hp.wide hp.high
  refine (PI.tile_any b g W H c _ x y w hp (fun j => ⟨_, by rw [e]⟩)).mono ?_
  rintro e' w' ⟨rfl, hb⟩
  exact ⟨by rw [e], hb⟩

/-- what bytes makes -/
def BytesP (w0 : World) (n : Nat) (zs : List Int) (e : Ending) (w : World) : Prop :=
  ∃ g c, e = .returned (.slice (some ⟨g, 0, none⟩) n c) ∧ Sl w (some ⟨g, 0, none⟩) n (zs.map (.int .u8)) ∧ Below w0.heap.size w0 w
set_option maxRecDepth 100000 in
set_option maxHeartbeats 4000000 in
theorem bytes_any (b o n c : Nat) (zs : List Int) (w : World) (hs : Sl w (some ⟨b, o, none⟩) n (zs.map (.int .i64))) (hz : AllB zs) (h1 : 1 ≤ n) (hn : n ≤ 1000000) :
    Calls Try.prog 51 #[.slice (some ⟨b, o, none⟩) n c] w (BytesP w n zs) := by
  obtain ⟨i0, hi, hz0, hz1, hz2⟩ := info_parts P8.info
  have hl : zs.length = n := by simpa using hs.1
  obtain ⟨b', o', e, hcell⟩ := hs.2 (by omega)
  injection e with e
  injection e with e1 e2
  subst e1 e2
  have HL := Lib.hid hl; clear hl
  have HC := Lib.hid hcell; clear hcell
  go_enter Try.func51, Try.ntmps51
  go_wp2_with fail
  go_loopw [3, 4] (fun s i wr => ∃ k : Nat, k ≤ n ∧ i = .int .i64 k ∧ Below w.heap.size w wr ∧ wr.ownsRow w.heap.size 5 1 s k ((zs.take k).map (.int .u8))) (fun _ i _ => n - (intOf i).toNat)
  case atStart => exact ⟨0, Nat.zero_le _, rfl, Below.refl _ _, World.ownsRow_nil _ _ _ _⟩
  case round =>
    obtain ⟨k, hk, rfl, hb, hown⟩ := hrel
    by_cases hlt : k < n
    · have hk2 : k < zs.length := by rw [HL.out]; exact hlt
      have d0 := below_cell hb (show w.cell? ⟨b, o + k, none⟩ = some (.int .i64 zs[k]) by rw [HC.out k hlt, List.getElem?_map, List.getElem?_eq_getElem hk2]; rfl)
      have hx : zs.take (k + 1) = zs.take k ++ [zs[k]] := List.take_succ_eq_append_getElem hk2
      have hzb := hz _ (List.getElem_mem hk2)
      obtain ⟨z, hzz⟩ : ∃ z, zs[k] = z := ⟨_, rfl⟩
      rw [hzz] at d0 hx hzb
      clear hzz
      have HX := Lib.hid hx; clear hx
      have y1 : IntKind.u8.wrap z = z := by apply IntWalk.u8_in <;> omega
      have y2 : z % 256 = z := by omega
      go_wp2_with (at_builtin; refine wpList_append_lies _ rfl (.tmp 11) (.tmp 17) 28 rfl w.heap.size 5 i0 (.int .u8 0) 1 1 Try.underlying28 hi hz0 hz1 hz2 rfl (by decide) _ k _ rfl (hown.alloc _) ⟨wr.heap.size, 0, none⟩ 1 1 [.int .u8 z] rfl rfl (show ∀ i u, _ → World.cell? _ _ = _ from cell_one_new wr _ _) (by intro u hu; simp at hu; subst hu; rfl) (by decide) (by unfold maxLen; omega) (by omega) (show w.heap.size ≤ (wr.alloc (.cells #[.int .u8 z] 5)).heap.size by simp; have := hb.size; omega) (wr.heap.size + 1) (show (wr.alloc (.cells #[.int .u8 z] 5)).heap.size = _ by simp) ?_; intro gg cap w1 hown1 hgrow hat hlt1)
      go_roundw
      case rel =>
        refine ⟨k + 1, by omega, by go_num, ?_, by rw [HX.out, List.map_append]; exact hown1⟩
        exact (hb.alloc hb.size _).grown hgrow (by simp; have := hb.size; omega) (fun j hj => (hown.lt j hj).1)
      case measure => simp [intOf]; omega
    · have hkn : k = n := by omega
      clear hk hlt
      subst hkn
      obtain ⟨g, cap, rfl, hg0, hg1⟩ := hown.form h1
      obtain ⟨curg, hgb, hgs, hgt, hgn⟩ := row_of_owns hown
      go_wp2_with fail
      go_ret
      rw [show zs.take k = zs from List.take_of_length_le (by rw [HL.out]; exact Nat.le_refl _)] at hgt
      exact ⟨g, cap, rfl, Sl.of_blk hgb hgt (by omega), hb⟩
end Go.Proofs.Ytlbocfinjlkebaa.Byt
