/- What both readers answer, in one form for a segment and for a fault. -/
import Derived.Test.YtjfgfoeenajneaaGreatDoorGE4
import Derived.Test.YtjfgfoeenajneaaGreatDoorGC9
import Derived.Test.YtjfgfoeenajneaaGreatDoorGC8
import Derived.Test.YtjfgfoeenajneaaGreatDoorGD2
namespace Go.Proofs.YtjfgfoeenajneaaGreatDoor.Sg
open Go.RowKit

def ansR : Read → SegM | .fault _ _ => SegM.none_ | .seg m => m
def codeR : Read → Int | .fault c _ => (c : Int) | .seg _ => 0
def placeR : Read → Int | .fault _ p => p | .seg _ => 0
theorem readM_nz {f : List UInt8} {p q : Int} {c : Nat} (h : readM f p = .fault c q) : c ≠ 0 := by
  unfold readM at h
  split at h
  · injection h with h; omega
  split at h
  · injection h with h; omega
  split at h
  · injection h with h; omega
  split at h
  · injection h with h; omega
  split at h
  · rename_i h9; injection h with h; omega
  split at h
  · injection h with h; omega
  split at h
  · injection h with h; omega
  split at h
  · injection h with h; omega
  split at h
  · injection h with h; omega
  split at h
  · rename_i e he
    injection h with h
    rw [← h]
    exact contM_nz he
  · cases h
theorem none_ok : SegOk SegM.none_ ∧ (∀ h ∈ SegM.none_.huffs, h.vals.length ≤ 16777216) ∧ ∀ p ∈ SegM.none_.parts, p.comp = 0 :=
  ⟨ok_none 0 (by decide) 0 0, fun _ h => (by cases h), fun _ h => (by cases h)⟩
theorem ansR_ok {f : List UInt8} {p : Int} {r : Read} (h : readM f p = r) (hf : f.length ≤ 16777216) : SegOk (ansR r) ∧ (∀ h ∈ (ansR r).huffs, h.vals.length ≤ 16777216) ∧ ∀ p ∈ (ansR r).parts, p.comp = 0 := by
  cases r with
  | fault c q => exact none_ok
  | seg m =>
    obtain ⟨h1, h2, h3⟩ := read_ok h hf
    exact ⟨h1, fun x hx => Nat.le_trans (h2 x hx) hf, h3⟩
theorem own_nil (u : World) (base : Nat) (e : TypeId) (z : Nat) : u.ownsRow base e z nilS 0 [] := ⟨by simp, .inl ⟨rfl, rfl⟩⟩
theorem lists_none (u : World) (base : Nat) : ListsL base u SegM.none_ nilS nilS nilS nilS nilS :=
  ⟨own_nil u base _ _, ⟨[], rfl, own_nil u base _ _, fun _ h => (by cases h)⟩, own_nil u base _ _, own_nil u base _ _, own_nil u base _ _⟩
theorem lists_one {base : Nat} {u : World} {m : SegM} {vq vh vc vp vi : Value} (h : ListsL base u m vq vh vc vp vi) : (segC m vq vh vc vp vi).all (·.oneCell') = true :=
  one13 _ _ _ _ _ _ (own_one h.q) (by obtain ⟨_, _, h9, _⟩ := h.h; exact own_one h9) (own_one h.c) (own_one h.p) (own_one h.i)
/-- the document's reader -/
def ReadDU (r : Read) (w : World) (e : Ending) (w' : World) : Prop :=
  Below w.heap.size w w' ∧ ∃ vq vh vc vp vi, e = .returned (.tuple #[.agg (segC (ansR r) vq vh vc vp vi), .agg #[.int .i64 (codeR r), .int .i64 (placeR r)]]) ∧ ListsL w.heap.size w' (ansR r) vq vh vc vp vi
theorem readD_u (f : List UInt8) (p : Int) (r : Read) (w : World) (hr : readM f p = r) (hl : f.length ≤ 16777216) (hp1 : -9223372036854775808 ≤ p) (hp2 : p ≤ 9223372036854775807) :
    Calls Tryz.prog 6 #[.string (Bs f), .int .i64 p] w (ReadDU r w) := by
  refine (readD_any f p w hl hp1 hp2).mono ?_
  rw [hr]
  rintro e w' ⟨hb, h⟩
  refine ⟨hb, ?_⟩
  cases r with
  | fault c q => exact ⟨_, _, _, _, _, h, lists_none _ _⟩
  | seg m => exact h
/-- the error that the program's reader answers -/
def EvAt (r : Read) (ev : Value) (u : World) : Prop := match r with
  | .fault c p => c ≠ 0 ∧ ∃ g, ev = .iface 67 (.pointer (some ⟨g, 0, none⟩)) ∧ Blk u g 34 #[.int .i64 (c : Int), .int .i64 p]
  | .seg _ => ev = .nilIface
theorem EvAt.below {r : Read} {ev : Value} {u u' : World} (h : EvAt r ev u) (hb : Below u.heap.size u u') : EvAt r ev u' := by
  cases r with
  | fault c p =>
    obtain ⟨h1, g, h2, h3⟩ := h
    exact ⟨h1, g, h2, h3.kept hb⟩
  | seg m => exact h
theorem EvAt.one {r : Read} {ev : Value} {u : World} (h : EvAt r ev u) : ev.oneCell' = true := by
  cases r with
  | fault c p =>
    obtain ⟨h1, g, rfl, h3⟩ := h
    rfl
  | seg m =>
    have h : ev = .nilIface := h
    rw [h]; rfl
def ReadU (r : Read) (w : World) (e : Ending) (w' : World) : Prop :=
  Below w.heap.size w w' ∧ ∃ vq vh vc vp vi ev, e = .returned (.tuple #[.agg (segC (ansR r) vq vh vc vp vi), ev]) ∧ ListsL w.heap.size w' (ansR r) vq vh vc vp vi ∧ EvAt r ev w'
theorem read_u (f : List UInt8) (p : Int) (r : Read) (w : World) (hev : ErrT w) (hr : readM f p = r) (hl : f.length ≤ 16777216) (hp1 : -9223372036854775808 ≤ p) (hp2 : p ≤ 9223372036854775807) :
    Calls Tryz.prog 7 #[.string (Bs f), .int .i64 p] w (ReadU r w) := by
  refine (read_any f p w hev hl hp1 hp2).mono ?_
  rw [hr]
  rintro e w' ⟨hb, h⟩
  refine ⟨hb, ?_⟩
  cases r with
  | fault c q =>
    obtain ⟨g, h1, _, h2⟩ := h
    exact ⟨_, _, _, _, _, _, h1, lists_none _ _, readM_nz hr, g, rfl, h2⟩
  | seg m =>
    obtain ⟨vq, vh, vc, vp, vi, h1, h2⟩ := h
    exact ⟨vq, vh, vc, vp, vi, _, h1, h2.loose, rfl⟩
theorem told_u (r : Read) (ev : Value) (w : World) (hev : ErrT w) (h : EvAt r ev w) :
    Calls Tryz.prog 8 #[ev] w fun e w' => e = .returned (.tuple #[.agg #[.int .i64 (codeR r), .int .i64 (placeR r)], .bool true]) ∧ Below w.heap.size w w' := by
  cases r with
  | fault c p =>
    obtain ⟨h1, g, rfl, h3⟩ := h
    exact told_fault c p g w hev h3 (by omega)
  | seg m =>
    have h : ev = .nilIface := h
    rw [h]
    exact told_nil w
theorem same_u (m : SegM) (vq vh vc vp vi vq' vh' vc' vp' vi' : Value) (w : World) (h1 : SegAt w m vq vh vc vp vi) (h2 : SegAt w m vq' vh' vc' vp' vi') (hok : SegOk m) (hp : ∀ p ∈ m.parts, p.comp = 0) :
    Calls Tryz.prog 9 #[.agg (segC m vq vh vc vp vi), .agg (segC m vq' vh' vc' vp' vi')] w fun e w' => e = .returned (.bool true) ∧ Below w.heap.size w w' :=
  same_true m vq vh vc vp vi vq' vh' vc' vp' vi' w h1 h2 hok (fun p hp' => by rw [hp p hp']; rfl)
theorem Blk.farRow {w : World} {g s : Nat} {t : TypeId} {cs : Array Value} (h : Blk w g t cs) (hne : g ≠ s) (ds : Array Value) : Blk (w.setRow s ds) g t cs :=
  ((grown_row (a := w) (r := some s) (grown_of_below (Below.refl _ _) _) (.inr rfl) ds).block g h.lt (fun e => hne (by injection e))).trans h
end Go.Proofs.YtjfgfoeenajneaaGreatDoor.Sg
