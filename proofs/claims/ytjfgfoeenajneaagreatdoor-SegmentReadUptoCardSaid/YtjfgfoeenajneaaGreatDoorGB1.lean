/- The document's bytes of a segment. The program's check of steps, numbers of two bytes. -/
import Derived.Test.YtjfgfoeenajneaaGreatDoorGA9
import Derived.Test.YtjfgfoeenajneaaGreatDoorGB0
namespace Go.Proofs.YtjfgfoeenajneaaGreatDoor.Sg
open Go.RowKit

/-- the cells of a segment by value -/
def segC (m : SegM) (vq vh vc vp vi : Value) : Array Value := #[.int .u8 (m.code : Nat), .int .i64 m.at_, .int .i64 m.end_, vq, vh, .int .u8 (m.kind : Nat), .int .i64 m.width, .int .i64 m.height, vc, vp, vi, .int .i64 m.restart, .string (Bs m.data)]
/-- what lies behind a segment's slices -/
structure SegAt (w : World) (m : SegM) (vq vh vc vp vi : Value) : Prop where
  q : ∃ A c, vq = .slice A m.quants.length c ∧ Rows 66 w A m.quants.length (m.quants.flatMap quantC)
  h : ∃ (A : Option Addr) (c : Nat) (ps : List (HuffM × Value)), vh = .slice A m.huffs.length c ∧ ps.map (·.1) = m.huffs ∧ Rows 19 w A m.huffs.length (ps.flatMap huffC) ∧ ∀ p ∈ ps, SlB w p.2 p.1.vals
  c : ∃ A c, vc = .slice A m.comps.length c ∧ Rows 4 w A m.comps.length (m.comps.flatMap compC) ∧ m.comps.length ≤ c
  p : ∃ A c, vp = .slice A m.parts.length c ∧ Rows 3 w A m.parts.length (m.parts.flatMap partC)
  i : ∃ A c, vi = .slice A m.ids.length c ∧ Sl w A m.ids.length (u8s m.ids)
theorem SegAt.below {w w' : World} {m : SegM} {vq vh vc vp vi : Value} (h : SegAt w m vq vh vc vp vi) (hb : Below w.heap.size w w') : SegAt w' m vq vh vc vp vi := by
  obtain ⟨⟨a1, a2, a3, a4⟩, ⟨b1, b2, b3, b4, b5, b6, b7⟩, ⟨c1, c2, c3, c4, c5⟩, ⟨d1, d2, d3, d4⟩, ⟨e1, e2, e3, e4⟩⟩ := h
  exact ⟨⟨a1, a2, a3, a4.below hb⟩, ⟨b1, b2, b3, b4, b5, b6.below hb, fun p hp => (b7 p hp).below hb⟩, ⟨c1, c2, c3, c4.below hb, c5⟩, ⟨d1, d2, d3, d4.below hb⟩, ⟨e1, e2, e3, e4.below hb⟩⟩
/-- a segment as it may lie in memory -/
structure SegOk (m : SegM) : Prop where
  code : m.code < 256
  kind : m.kind < 256
  quants : ∀ q ∈ m.quants, QuantOk q
  huffs : ∀ h ∈ m.huffs, HuffOk h
  comps : ∀ c ∈ m.comps, c.id < 256 ∧ c.h < 256 ∧ c.v < 256 ∧ c.q < 256
  parts : ∀ p ∈ m.parts, p.dc < 256 ∧ p.ac < 256
  ids : ∀ x ∈ m.ids, x < 256
  fewQ : m.quants.length ≤ 16777216
  fewH : m.huffs.length ≤ 16777216
  fewC : m.comps.length ≤ 16777216
  fewP : m.parts.length ≤ 16777216
  fewI : m.ids.length ≤ 16777216
  fewD : m.data.length ≤ 16777216
  rs : -9223372036854775808 ≤ m.restart ∧ m.restart ≤ 9223372036854775807
theorem quantT_bad {l : List QuantM} {c : Nat} (h : quantT l = .bad c) : c ≠ 0 := by
  unfold quantT at h
  by_cases h1 : l.any quantBad
  · rw [if_pos h1] at h; cases h; decide
  · rw [if_neg h1] at h
    by_cases h2 : l = []
    · rw [if_pos h2] at h; cases h; decide
    · rw [if_neg h2] at h; cases h
theorem huffT_bad {l : List HuffM} {c : Nat} (h : huffT l = .bad c) : c ≠ 0 := by
  unfold huffT at h
  by_cases h1 : l.any huffBad
  · rw [if_pos h1] at h; cases h; decide
  · rw [if_neg h1] at h
    by_cases h2 : l = []
    · rw [if_pos h2] at h; cases h; decide
    · rw [if_neg h2] at h; cases h
theorem frameT_bad {wd ht : Int} {l : List CompM} {c : Nat} (h : frameT wd ht l = .bad c) : c ≠ 0 := by
  unfold frameT at h
  by_cases h1 : framedM wd ht l ≠ 0
  · rw [if_pos h1] at h; cases h; exact h1
  · rw [if_neg h1] at h; cases h
theorem scanT_bad {a : List Nat} {b : List PartM} {c : Nat} (h : scanT a b = .bad c) : c ≠ 0 := by
  unfold scanT at h
  by_cases h1 : b.length < 1 ∨ 4 < b.length ∨ a.length ≠ b.length
  · rw [if_pos h1] at h; cases h; decide
  · rw [if_neg h1] at h
    by_cases h2 : b.any (fun p => decide (3 < p.dc ∨ 3 < p.ac))
    · rw [if_pos h2] at h; cases h; decide
    · rw [if_neg h2] at h; cases h
theorem dataM_q {m : SegM} (h : m.code = 219) : dataM m = quantT m.quants := by unfold dataM; rw [if_pos h]; rfl
theorem dataM_h {m : SegM} (h : m.code = 196) : dataM m = huffT m.huffs := by unfold dataM; rw [if_neg (by omega), if_pos h]; rfl
theorem dataM_f {m : SegM} (h : m.code = 192 ∨ m.code = 193) : dataM m = frameT m.width m.height m.comps := by unfold dataM; rw [if_neg (by omega), if_neg (by omega), if_pos h]; rfl
theorem dataM_s {m : SegM} (h : m.code = 218) : dataM m = scanT m.ids m.parts := by unfold dataM; rw [if_neg (by omega), if_neg (by omega), if_neg (by omega), if_pos h]; rfl
theorem dataM_r {m : SegM} (h : m.code = 221) : dataM m = if m.restart < 0 ∨ 65535 < m.restart then .bad 3 else .ok (num2 m.restart.toNat) := by unfold dataM; rw [if_neg (by omega), if_neg (by omega), if_neg (by omega), if_neg (by omega), if_pos h]
theorem dataM_d {m : SegM} (h : ¬ (m.code = 219 ∨ m.code = 196 ∨ m.code = 192 ∨ m.code = 193 ∨ m.code = 218 ∨ m.code = 221)) : dataM m = .ok m.data := by unfold dataM; rw [if_neg (by omega), if_neg (by omega), if_neg (by omega), if_neg (by omega), if_neg (by omega)]
theorem may_ref : ∀ n : Nat, n < 256 → (refM n ≠ 0 ∨ mayM n = false) = (mayM n = false) := by decide +kernel
theorem textM_no {m : SegM} (h : mayM m.code = false) : textM m = .bad 151 := by unfold textM; rw [if_pos (.inr h)]
theorem textM_yes {m : SegM} (hc : m.code < 256) (h : mayM m.code = true) : textM m = match dataM m with
    | .bad e => .bad e
    | .ok d => if 65533 < d.length then .bad 152 else .ok (255 :: UInt8.ofNat m.code :: (num2 (d.length + 2) ++ d)) := by
  unfold textM
  rw [if_neg (by rw [may_ref _ hc, h]; simp)]
  cases dataM m <;> rfl
theorem quantT_len {l : List QuantM} (hq : ∀ q ∈ l, QuantOk q) {t : List UInt8} (h : quantT l = .ok t) : t.length ≤ l.length * 129 := by
  unfold quantT at h
  by_cases h1 : l.any quantBad
  · rw [if_pos h1] at h; cases h
  · rw [if_neg h1] at h
    by_cases h2 : l = []
    · rw [if_pos h2] at h; cases h
    · rw [if_neg h2] at h; cases h; exact quants_len hq
theorem huffT_len {l : List HuffM} (hq : ∀ q ∈ l, HuffOk q) {t : List UInt8} (h : huffT l = .ok t) : t.length ≤ l.length * 273 := by
  unfold huffT at h
  by_cases h1 : l.any huffBad
  · rw [if_pos h1] at h; cases h
  · rw [if_neg h1] at h
    by_cases h2 : l = []
    · rw [if_pos h2] at h; cases h
    · rw [if_neg h2] at h; cases h; exact huffs_len (by simpa using h1) fun x hx => (hq x hx).len
theorem frameT_len {wd ht : Int} {l : List CompM} {t : List UInt8} (h : frameT wd ht l = .ok t) : t.length ≤ 100 := by
  unfold frameT at h
  by_cases h1 : framedM wd ht l ≠ 0
  · rw [if_pos h1] at h; cases h
  · rw [if_neg h1] at h
    have := geom_ok (framed_geom (by simpa using h1))
    cases h
    simp only [List.length_cons, List.length_append, List.length_nil, num2, comps_len]
    omega
theorem scanT_len {a : List Nat} {b : List PartM} {t : List UInt8} (h : scanT a b = .ok t) : t.length ≤ 100 := by
  unfold scanT at h
  by_cases h1 : b.length < 1 ∨ 4 < b.length ∨ a.length ≠ b.length
  · rw [if_pos h1] at h; cases h
  · rw [if_neg h1] at h
    by_cases h2 : b.any (fun p => decide (3 < p.dc ∨ 3 < p.ac))
    · rw [if_pos h2] at h; cases h
    · rw [if_neg h2] at h
      cases h
      simp only [List.length_cons, List.length_append, List.length_nil, partB_len, List.length_zip]
      omega
def GI (s c : Nat) (u : World) : Prop := u.cell? ⟨s, 0, none⟩ = some (.int .u8 (c : Int)) ∧ True
theorem GI.below {s c : Nat} {u u' : World} (h : GI s c u) (hb : Below u.heap.size u u') : GI s c u' := ⟨below_cell hb h.1, trivial⟩
theorem GI.drewN {s c : Nat} {u : World} (h : GI s c u) (n : Nat) : GI s c (u.drewN n) := h
set_option maxRecDepth 100000 in
set_option maxHeartbeats 32000000 in
theorem text15_any (m : SegM) (vq vh vc vp vi : Value) (w : World) (hm : SegAt w m vq vh vc vp vi) (hok : SegOk m) :
    Calls Tryz.prog 48 #[.agg (segC m vq vh vc vp vi)] w (StrP w (textM m)) := by
  have hu : Blk (w.alloc (.cells (segC m vq vh vc vp vi) 31)) w.heap.size 31 (segC m vq vh vc vp vi) := Blk.new w _ _
  have hb : Below w.heap.size w (w.alloc (.cells (segC m vq vh vc vp vi) 31)) := (Below.refl _ _).alloc (Nat.le_refl _) _
  have HM := Lib.hid (hm.below hb); clear hm
  have HOK := Lib.hid hok
  have hcode := hok.code
  clear hok
  have gq : ∀ i v, (segC m vq vh vc vp vi)[i]? = some v → (w.alloc (.cells (segC m vq vh vc vp vi) 31)).cell? ⟨w.heap.size, i, none⟩ = some v := fun i v h => by rw [hu.cell, h]
  have g0 : (w.alloc (.cells (segC m vq vh vc vp vi) 31)).cell? ⟨w.heap.size, 0, none⟩ = some (.int .u8 (m.code : Nat)) := gq 0 _ rfl
  have g3 : (w.alloc (.cells (segC m vq vh vc vp vi) 31)).cell? ⟨w.heap.size, 3, none⟩ = some vq := gq 3 _ rfl
  have g4 : (w.alloc (.cells (segC m vq vh vc vp vi) 31)).cell? ⟨w.heap.size, 4, none⟩ = some vh := gq 4 _ rfl
  have g5 : (w.alloc (.cells (segC m vq vh vc vp vi) 31)).cell? ⟨w.heap.size, 5, none⟩ = some (.int .u8 (m.kind : Nat)) := gq 5 _ rfl
  have g6 : (w.alloc (.cells (segC m vq vh vc vp vi) 31)).cell? ⟨w.heap.size, 6, none⟩ = some (.int .i64 m.width) := gq 6 _ rfl
  have g7 : (w.alloc (.cells (segC m vq vh vc vp vi) 31)).cell? ⟨w.heap.size, 7, none⟩ = some (.int .i64 m.height) := gq 7 _ rfl
  have g8 : (w.alloc (.cells (segC m vq vh vc vp vi) 31)).cell? ⟨w.heap.size, 8, none⟩ = some vc := gq 8 _ rfl
  have g9 : (w.alloc (.cells (segC m vq vh vc vp vi) 31)).cell? ⟨w.heap.size, 9, none⟩ = some vp := gq 9 _ rfl
  have g10 : (w.alloc (.cells (segC m vq vh vc vp vi) 31)).cell? ⟨w.heap.size, 10, none⟩ = some vi := gq 10 _ rfl
  have g11 : (w.alloc (.cells (segC m vq vh vc vp vi) 31)).cell? ⟨w.heap.size, 11, none⟩ = some (.int .i64 m.restart) := gq 11 _ rfl
  have g12 : (w.alloc (.cells (segC m vq vh vc vp vi) 31)).cell? ⟨w.heap.size, 12, none⟩ = some (.string (Bs m.data)) := gq 12 _ rfl
  clear gq hu
  go_enter Tryz.func48, Tryz.ntmps48
  go_upto_region 1 with fail
  generalize hsv : (segC m vq vh vc vp vi) = sv at *
  generalize (w.alloc (.cells sv 31)) = w1 at *
  generalize hag : w.heap.size = s at g0 g3 g4 g5 g6 g7 g8 g9 g10 g11 g12 ⊢
  clear hsv
  have HAG := Lib.hid hag; clear hag
  obtain ⟨code, hcd⟩ : ∃ c, m.code = c := ⟨_, rfl⟩
  rw [hcd] at g0 hcode
  go_wp2_with fail
  refine (may15_any code w1 hcode).mono ?_
  rintro e w2 ⟨rfl, rfl⟩
  cases hmay : mayM code with
  | false =>
    have hres := textM_no (m := m) (by rw [hcd]; exact hmay)
    have HR := Lib.hid hres; clear hres hmay
    go_wp2_with fail
    go_ret2
    exact ⟨by rw [HR.out]; rfl, hb⟩
  | true =>
  have htx := textM_yes (m := m) (by rw [hcd]; exact hcode) (by rw [hcd]; exact hmay)
  have HTX := Lib.hid htx; clear htx
  have HCODE := Lib.hid hcd; clear hmay hcd
  have hI0 : GI s code w1 := ⟨g0, trivial⟩
  go_wp2_with fail
  refine (frame15_any code w1 hcode).mono ?_
  rintro e w3 ⟨rfl, rfl⟩
  by_cases hk : code = 219
  · subst hk
    have hdm := dataM_q HCODE.out
    have hlen : ∀ t, quantT m.quants = .ok t → t.length ≤ 315000000000000 := fun t h => by have := quantT_len HOK.out.quants h; have := HOK.out.fewQ; omega
    have hbad : ∀ c, quantT m.quants = .bad c → c ≠ 0 := fun c h => quantT_bad h
    have HDM := Lib.hid (And.intro hdm (And.intro hlen hbad)); clear hdm hlen hbad
    obtain ⟨A, c, rfl, hrw⟩ := HM.out.q
    go_wp2_with fail
    refine (quantText_any m.quants A _ c w1 hrw HOK.out.quants (by have := HOK.out.fewQ; omega)).mono ?_
    rintro e wz ⟨he, hb4⟩
    have hI := hI0.below hb4
    have hb3 := below_then hb hb4
    clear hb hb4 hI0 g0 g3 g4 g5 g6 g7 g8 g9 g10 g11 g12
    have HE := Lib.hid he; clear he
    cases hr : quantT m.quants with
    | bad c =>
      have h9 := HE.out
      rw [hr] at h9
      subst h9
      have hc0 := HDM.out.2.2 c hr
      have hres : textM m = .bad c := by rw [HTX.out, HDM.out.1, hr]
      have HR := Lib.hid hres; clear hres hr HE
      have hcb : ((c : Int) != 0) = true := by simpa using hc0
      have hcb2 : ¬ ((c : Int) = 0) := by omega
      have hI1 := hI.1
      go_wp2_with fail
      go_ret2
      exact ⟨by rw [HR.out]; rfl, hb3⟩
    | ok d =>
      have h9 := HE.out
      rw [hr] at h9
      subst h9
      have hdl := HDM.out.2.1 d hr
      have HT := Lib.hid (show (65533 < d.length → textM m = .bad 152) ∧ (¬ 65533 < d.length → textM m = .ok (255 :: UInt8.ofNat 219 :: (num2 (d.length + 2) ++ d))) from ⟨fun h => by rw [HTX.out, HDM.out.1, hr]; exact if_pos h, fun h => by rw [HTX.out, HDM.out.1, hr, HCODE.out]; exact if_neg h⟩)
      clear hr HE HDM HTX
      by_cases hbig : 65533 < d.length
      · have hr := HT.out.1 hbig
        have HR := Lib.hid hr; clear hr
        have hz := Bs_size d
        go_wp2_with fail
        go_ret2
        exact ⟨by rw [HR.out]; rfl, hb3⟩
      have hr := HT.out.2 hbig
      have HR := Lib.hid hr; clear hr HT
      have hz := Bs_size d
      have u1 : IntKind.i64.wrap (219 : Int) = 219 := IntWalk.i64_in _ (by omega)
      have u2 : IntKind.i64.wrap ((d.length : Int) + 2) = (d.length : Int) + 2 := IntWalk.i64_in _ (by omega)
      have c0 := hI.1
      go_upto_region 23 with fail
      clear c0
      refine Lex3.wp_region_lex [] (GI s 219) (fun u n h => h) hI (by kernel_rfl) (by kernel_rfl) ?_
      have hI' := hI.drewN 1
      have hb3' := below_drewN hb3 1
      clear hI hb3
      have hI : GI s 219 wz.drew := hI'
      have hb3 : Below w.heap.size w wz.drew := hb3'
      clear hI' hb3'
      generalize wz.drew = wA at hI hb3 ⊢
      try simp only [Act.put, zA, zB, zC]
      refine Lex3.run_eff (by rfl) (by rfl) (fun n21 K21 hK21 => ?_)
      go_simp
      refine (byteOf_any 255 (wA.drewN n21) (by omega)).mono ?_
      rintro e w21 ⟨rfl, hb21⟩
      have hJ := (hI.drewN n21).below hb21
      refine hK21 _ _ hJ ?_
      clear hK21 K21 hI
      have hI := hJ
      clear hJ
      have hb3' := below_then (below_drewN hb3 n21) hb21
      clear hb3 hb21
      have hb3 := hb3'
      clear hb3'
      try simp only [Act.put, zA, zB, zC]

      rw [show UInt8.ofNat 255 = 255 from rfl]
      refine Lex3.run_free (v := ?_) (by rfl) (by rfl) (fun u => ?_) ?_; rotate_left; (go_simp; try with_reducible rfl); simp only [Act.put, zA, zB, zC]
      refine Lex3.run_load (v := ?_) (by rfl) (by rfl) (fun u hu => ?_) ?_; rotate_left; (have hu0 := hu.1; go_simp; try with_reducible rfl); simp only [Act.put, zA, zB, zC]
      refine Lex3.run_free (v := ?_) (by rfl) (by rfl) (fun u => ?_) ?_; rotate_left; (go_simp; try with_reducible rfl); simp only [Act.put, zA, zB, zC]
      refine Lex3.run_eff (by rfl) (by rfl) (fun n22 K22 hK22 => ?_)
      go_simp
      refine (byteOf_any 219 (w21.drewN n22) (by omega)).mono ?_
      rintro e w22 ⟨rfl, hb22⟩
      have hJ := (hI.drewN n22).below hb22
      refine hK22 _ _ hJ ?_
      clear hK22 K22 hI
      have hI := hJ
      clear hJ
      have hb3' := below_then (below_drewN hb3 n22) hb22
      clear hb3 hb22
      have hb3 := hb3'
      clear hb3'
      try simp only [Act.put, zA, zB, zC]

      generalize hB1 : UInt8.ofNat 219 = B1
      have HB1 := Lib.hid hB1; clear hB1
      refine run_add (by rfl) (by rfl) rfl rfl rfl (by simp only [List.length_cons, List.length_nil]; omega) ?_; simp only [Act.put, zA, zB, zC]
      iterate 3 (refine Lex3.run_free (v := ?_) (by rfl) (by rfl) (fun u => ?_) ?_; rotate_left; (go_simp; try with_reducible rfl); simp only [Act.put, zA, zB, zC])
      refine Lex3.run_eff (by rfl) (by rfl) (fun n23 K23 hK23 => ?_)
      go_simp
      refine (number_any ((d.length : Int) + 2) (w22.drewN n23) (by omega) (by omega)).mono ?_
      rintro e w23 ⟨sh, rfl, hsh, hb23⟩
      have hJ := (hI.drewN n23).below hb23
      refine hK23 _ _ hJ ?_
      clear hK23 K23 hI
      have hI := hJ
      clear hJ
      have hb3' := below_then (below_drewN hb3 n23) hb23
      clear hb3 hb23
      have hb3 := hb3'
      clear hb3'
      try simp only [Act.put, zA, zB, zC]

      have hsh1 := hsh.1
      have HSH := Lib.hid (hsh.2 (by omega) (by omega)); clear hsh
      refine run_add (by rfl) (by rfl) rfl rfl rfl (by simp only [List.length_cons, List.length_nil]; omega) ?_; simp only [Act.put, zA, zB, zC]
      refine Lex3.run_free (v := ?_) (by rfl) (by rfl) (fun u => ?_) ?_; rotate_left; (go_simp; try with_reducible rfl); simp only [Act.put, zA, zB, zC]
      refine run_add (by rfl) (by rfl) rfl rfl rfl (by simp only [List.length_append, List.length_cons, List.length_nil]; omega) ?_; simp only [Act.put, zA, zB, zC]
      iterate 2 (refine Lex3.run_free (v := ?_) (by rfl) (by rfl) (fun u => ?_) ?_; rotate_left; (go_simp; try with_reducible rfl); simp only [Act.put, zA, zB, zC])
      refine Lex3.run_nil (fun n3 => ?_)
      have hb3' := below_drewN hb3 n3
      clear hI hb3
      generalize w23.drewN n3 = w24 at hb3' ⊢
      go_wp2_with fail
      go_ret2
      refine ⟨?_, hb3'⟩
      rw [HR.out, ← HB1.out, show num2 (d.length + 2) = sh by rw [HSH.out]; rfl]
      simp
  by_cases hk : code = 196
  · subst hk
    have hdm := dataM_h HCODE.out
    have hlen : ∀ t, huffT m.huffs = .ok t → t.length ≤ 315000000000000 := fun t h => by have := huffT_len HOK.out.huffs h; have := HOK.out.fewH; omega
    have hbad : ∀ c, huffT m.huffs = .bad c → c ≠ 0 := fun c h => huffT_bad h
    have HDM := Lib.hid (And.intro hdm (And.intro hlen hbad)); clear hdm hlen hbad
    obtain ⟨A, c, ps, rfl, hps, hrw, hsl⟩ := HM.out.h
    have hcall := huffText_any ps A _ c w1 hrw (fun p hp => HOK.out.huffs _ (by rw [← hps]; exact List.mem_map_of_mem hp)) hsl (by have := HOK.out.fewH; omega)
    rw [hps] at hcall
    have HCALL := Lib.hid hcall; clear hcall hrw hsl hps
    go_wp2_with fail
    refine (HCALL.out).mono ?_
    rintro e wz ⟨he, hb4⟩
    have hI := hI0.below hb4
    have hb3 := below_then hb hb4
    clear hb hb4 hI0 g0 g3 g4 g5 g6 g7 g8 g9 g10 g11 g12
    have HE := Lib.hid he; clear he
    cases hr : huffT m.huffs with
    | bad c =>
      have h9 := HE.out
      rw [hr] at h9
      subst h9
      have hc0 := HDM.out.2.2 c hr
      have hres : textM m = .bad c := by rw [HTX.out, HDM.out.1, hr]
      have HR := Lib.hid hres; clear hres hr HE
      have hcb : ((c : Int) != 0) = true := by simpa using hc0
      have hcb2 : ¬ ((c : Int) = 0) := by omega
      have hI1 := hI.1
      go_wp2_with fail
      go_ret2
      exact ⟨by rw [HR.out]; rfl, hb3⟩
    | ok d =>
      have h9 := HE.out
      rw [hr] at h9
      subst h9
      have hdl := HDM.out.2.1 d hr
      have HT := Lib.hid (show (65533 < d.length → textM m = .bad 152) ∧ (¬ 65533 < d.length → textM m = .ok (255 :: UInt8.ofNat 196 :: (num2 (d.length + 2) ++ d))) from ⟨fun h => by rw [HTX.out, HDM.out.1, hr]; exact if_pos h, fun h => by rw [HTX.out, HDM.out.1, hr, HCODE.out]; exact if_neg h⟩)
      clear hr HE HDM HTX
      by_cases hbig : 65533 < d.length
      · have hr := HT.out.1 hbig
        have HR := Lib.hid hr; clear hr
        have hz := Bs_size d
        go_wp2_with fail
        go_ret2
        exact ⟨by rw [HR.out]; rfl, hb3⟩
      have hr := HT.out.2 hbig
      have HR := Lib.hid hr; clear hr HT
      have hz := Bs_size d
      have u1 : IntKind.i64.wrap (196 : Int) = 196 := IntWalk.i64_in _ (by omega)
      have u2 : IntKind.i64.wrap ((d.length : Int) + 2) = (d.length : Int) + 2 := IntWalk.i64_in _ (by omega)
      have c0 := hI.1
      go_upto_region 23 with fail
      clear c0
      refine Lex3.wp_region_lex [] (GI s 196) (fun u n h => h) hI (by kernel_rfl) (by kernel_rfl) ?_
      have hI' := hI.drewN 1
      have hb3' := below_drewN hb3 1
      clear hI hb3
      have hI : GI s 196 wz.drew := hI'
      have hb3 : Below w.heap.size w wz.drew := hb3'
      clear hI' hb3'
      generalize wz.drew = wA at hI hb3 ⊢
      try simp only [Act.put, zA, zB, zC]
      refine Lex3.run_eff (by rfl) (by rfl) (fun n21 K21 hK21 => ?_)
      go_simp
      refine (byteOf_any 255 (wA.drewN n21) (by omega)).mono ?_
      rintro e w21 ⟨rfl, hb21⟩
      have hJ := (hI.drewN n21).below hb21
      refine hK21 _ _ hJ ?_
      clear hK21 K21 hI
      have hI := hJ
      clear hJ
      have hb3' := below_then (below_drewN hb3 n21) hb21
      clear hb3 hb21
      have hb3 := hb3'
      clear hb3'
      try simp only [Act.put, zA, zB, zC]

      rw [show UInt8.ofNat 255 = 255 from rfl]
      refine Lex3.run_free (v := ?_) (by rfl) (by rfl) (fun u => ?_) ?_; rotate_left; (go_simp; try with_reducible rfl); simp only [Act.put, zA, zB, zC]
      refine Lex3.run_load (v := ?_) (by rfl) (by rfl) (fun u hu => ?_) ?_; rotate_left; (have hu0 := hu.1; go_simp; try with_reducible rfl); simp only [Act.put, zA, zB, zC]
      refine Lex3.run_free (v := ?_) (by rfl) (by rfl) (fun u => ?_) ?_; rotate_left; (go_simp; try with_reducible rfl); simp only [Act.put, zA, zB, zC]
      refine Lex3.run_eff (by rfl) (by rfl) (fun n22 K22 hK22 => ?_)
      go_simp
      refine (byteOf_any 196 (w21.drewN n22) (by omega)).mono ?_
      rintro e w22 ⟨rfl, hb22⟩
      have hJ := (hI.drewN n22).below hb22
      refine hK22 _ _ hJ ?_
      clear hK22 K22 hI
      have hI := hJ
      clear hJ
      have hb3' := below_then (below_drewN hb3 n22) hb22
      clear hb3 hb22
      have hb3 := hb3'
      clear hb3'
      try simp only [Act.put, zA, zB, zC]

      generalize hB1 : UInt8.ofNat 196 = B1
      have HB1 := Lib.hid hB1; clear hB1
      refine run_add (by rfl) (by rfl) rfl rfl rfl (by simp only [List.length_cons, List.length_nil]; omega) ?_; simp only [Act.put, zA, zB, zC]
      iterate 3 (refine Lex3.run_free (v := ?_) (by rfl) (by rfl) (fun u => ?_) ?_; rotate_left; (go_simp; try with_reducible rfl); simp only [Act.put, zA, zB, zC])
      refine Lex3.run_eff (by rfl) (by rfl) (fun n23 K23 hK23 => ?_)
      go_simp
      refine (number_any ((d.length : Int) + 2) (w22.drewN n23) (by omega) (by omega)).mono ?_
      rintro e w23 ⟨sh, rfl, hsh, hb23⟩
      have hJ := (hI.drewN n23).below hb23
      refine hK23 _ _ hJ ?_
      clear hK23 K23 hI
      have hI := hJ
      clear hJ
      have hb3' := below_then (below_drewN hb3 n23) hb23
      clear hb3 hb23
      have hb3 := hb3'
      clear hb3'
      try simp only [Act.put, zA, zB, zC]

      have hsh1 := hsh.1
      have HSH := Lib.hid (hsh.2 (by omega) (by omega)); clear hsh
      refine run_add (by rfl) (by rfl) rfl rfl rfl (by simp only [List.length_cons, List.length_nil]; omega) ?_; simp only [Act.put, zA, zB, zC]
      refine Lex3.run_free (v := ?_) (by rfl) (by rfl) (fun u => ?_) ?_; rotate_left; (go_simp; try with_reducible rfl); simp only [Act.put, zA, zB, zC]
      refine run_add (by rfl) (by rfl) rfl rfl rfl (by simp only [List.length_append, List.length_cons, List.length_nil]; omega) ?_; simp only [Act.put, zA, zB, zC]
      iterate 2 (refine Lex3.run_free (v := ?_) (by rfl) (by rfl) (fun u => ?_) ?_; rotate_left; (go_simp; try with_reducible rfl); simp only [Act.put, zA, zB, zC])
      refine Lex3.run_nil (fun n3 => ?_)
      have hb3' := below_drewN hb3 n3
      clear hI hb3
      generalize w23.drewN n3 = w24 at hb3' ⊢
      go_wp2_with fail
      go_ret2
      refine ⟨?_, hb3'⟩
      rw [HR.out, ← HB1.out, show num2 (d.length + 2) = sh by rw [HSH.out]; rfl]
      simp
  by_cases hk : code = 192
  · subst hk
    have hdm := dataM_f (.inl HCODE.out)
    have hlen : ∀ t, frameT m.width m.height m.comps = .ok t → t.length ≤ 315000000000000 := fun t h => by have := frameT_len h; omega
    have hbad : ∀ c, frameT m.width m.height m.comps = .bad c → c ≠ 0 := fun c h => frameT_bad h
    have HDM := Lib.hid (And.intro hdm (And.intro hlen hbad)); clear hdm hlen hbad
    obtain ⟨A, c, rfl, hrw, _⟩ := HM.out.c
    go_wp2_with fail
    refine (frameText_any m.kind m.width m.height m.comps A _ c w1 hrw (by have := HOK.out.fewC; omega) HOK.out.comps).mono ?_
    rintro e wz ⟨he, hb4⟩
    have hI := hI0.below hb4
    have hb3 := below_then hb hb4
    clear hb hb4 hI0 g0 g3 g4 g5 g6 g7 g8 g9 g10 g11 g12
    have HE := Lib.hid he; clear he
    cases hr : frameT m.width m.height m.comps with
    | bad c =>
      have h9 := HE.out
      rw [hr] at h9
      subst h9
      have hc0 := HDM.out.2.2 c hr
      have hres : textM m = .bad c := by rw [HTX.out, HDM.out.1, hr]
      have HR := Lib.hid hres; clear hres hr HE
      have hcb : ((c : Int) != 0) = true := by simpa using hc0
      have hcb2 : ¬ ((c : Int) = 0) := by omega
      have hI1 := hI.1
      go_wp2_with fail
      go_ret2
      exact ⟨by rw [HR.out]; rfl, hb3⟩
    | ok d =>
      have h9 := HE.out
      rw [hr] at h9
      subst h9
      have hdl := HDM.out.2.1 d hr
      have HT := Lib.hid (show (65533 < d.length → textM m = .bad 152) ∧ (¬ 65533 < d.length → textM m = .ok (255 :: UInt8.ofNat 192 :: (num2 (d.length + 2) ++ d))) from ⟨fun h => by rw [HTX.out, HDM.out.1, hr]; exact if_pos h, fun h => by rw [HTX.out, HDM.out.1, hr, HCODE.out]; exact if_neg h⟩)
      clear hr HE HDM HTX
      by_cases hbig : 65533 < d.length
      · have hr := HT.out.1 hbig
        have HR := Lib.hid hr; clear hr
        have hz := Bs_size d
        go_wp2_with fail
        go_ret2
        exact ⟨by rw [HR.out]; rfl, hb3⟩
      have hr := HT.out.2 hbig
      have HR := Lib.hid hr; clear hr HT
      have hz := Bs_size d
      have u1 : IntKind.i64.wrap (192 : Int) = 192 := IntWalk.i64_in _ (by omega)
      have u2 : IntKind.i64.wrap ((d.length : Int) + 2) = (d.length : Int) + 2 := IntWalk.i64_in _ (by omega)
      have c0 := hI.1
      go_upto_region 23 with fail
      clear c0
      refine Lex3.wp_region_lex [] (GI s 192) (fun u n h => h) hI (by kernel_rfl) (by kernel_rfl) ?_
      have hI' := hI.drewN 1
      have hb3' := below_drewN hb3 1
      clear hI hb3
      have hI : GI s 192 wz.drew := hI'
      have hb3 : Below w.heap.size w wz.drew := hb3'
      clear hI' hb3'
      generalize wz.drew = wA at hI hb3 ⊢
      try simp only [Act.put, zA, zB, zC]
      refine Lex3.run_eff (by rfl) (by rfl) (fun n21 K21 hK21 => ?_)
      go_simp
      refine (byteOf_any 255 (wA.drewN n21) (by omega)).mono ?_
      rintro e w21 ⟨rfl, hb21⟩
      have hJ := (hI.drewN n21).below hb21
      refine hK21 _ _ hJ ?_
      clear hK21 K21 hI
      have hI := hJ
      clear hJ
      have hb3' := below_then (below_drewN hb3 n21) hb21
      clear hb3 hb21
      have hb3 := hb3'
      clear hb3'
      try simp only [Act.put, zA, zB, zC]

      rw [show UInt8.ofNat 255 = 255 from rfl]
      refine Lex3.run_free (v := ?_) (by rfl) (by rfl) (fun u => ?_) ?_; rotate_left; (go_simp; try with_reducible rfl); simp only [Act.put, zA, zB, zC]
      refine Lex3.run_load (v := ?_) (by rfl) (by rfl) (fun u hu => ?_) ?_; rotate_left; (have hu0 := hu.1; go_simp; try with_reducible rfl); simp only [Act.put, zA, zB, zC]
      refine Lex3.run_free (v := ?_) (by rfl) (by rfl) (fun u => ?_) ?_; rotate_left; (go_simp; try with_reducible rfl); simp only [Act.put, zA, zB, zC]
      refine Lex3.run_eff (by rfl) (by rfl) (fun n22 K22 hK22 => ?_)
      go_simp
      refine (byteOf_any 192 (w21.drewN n22) (by omega)).mono ?_
      rintro e w22 ⟨rfl, hb22⟩
      have hJ := (hI.drewN n22).below hb22
      refine hK22 _ _ hJ ?_
      clear hK22 K22 hI
      have hI := hJ
      clear hJ
      have hb3' := below_then (below_drewN hb3 n22) hb22
      clear hb3 hb22
      have hb3 := hb3'
      clear hb3'
      try simp only [Act.put, zA, zB, zC]

      generalize hB1 : UInt8.ofNat 192 = B1
      have HB1 := Lib.hid hB1; clear hB1
      refine run_add (by rfl) (by rfl) rfl rfl rfl (by simp only [List.length_cons, List.length_nil]; omega) ?_; simp only [Act.put, zA, zB, zC]
      iterate 3 (refine Lex3.run_free (v := ?_) (by rfl) (by rfl) (fun u => ?_) ?_; rotate_left; (go_simp; try with_reducible rfl); simp only [Act.put, zA, zB, zC])
      refine Lex3.run_eff (by rfl) (by rfl) (fun n23 K23 hK23 => ?_)
      go_simp
      refine (number_any ((d.length : Int) + 2) (w22.drewN n23) (by omega) (by omega)).mono ?_
      rintro e w23 ⟨sh, rfl, hsh, hb23⟩
      have hJ := (hI.drewN n23).below hb23
      refine hK23 _ _ hJ ?_
      clear hK23 K23 hI
      have hI := hJ
      clear hJ
      have hb3' := below_then (below_drewN hb3 n23) hb23
      clear hb3 hb23
      have hb3 := hb3'
      clear hb3'
      try simp only [Act.put, zA, zB, zC]

      have hsh1 := hsh.1
      have HSH := Lib.hid (hsh.2 (by omega) (by omega)); clear hsh
      refine run_add (by rfl) (by rfl) rfl rfl rfl (by simp only [List.length_cons, List.length_nil]; omega) ?_; simp only [Act.put, zA, zB, zC]
      refine Lex3.run_free (v := ?_) (by rfl) (by rfl) (fun u => ?_) ?_; rotate_left; (go_simp; try with_reducible rfl); simp only [Act.put, zA, zB, zC]
      refine run_add (by rfl) (by rfl) rfl rfl rfl (by simp only [List.length_append, List.length_cons, List.length_nil]; omega) ?_; simp only [Act.put, zA, zB, zC]
      iterate 2 (refine Lex3.run_free (v := ?_) (by rfl) (by rfl) (fun u => ?_) ?_; rotate_left; (go_simp; try with_reducible rfl); simp only [Act.put, zA, zB, zC])
      refine Lex3.run_nil (fun n3 => ?_)
      have hb3' := below_drewN hb3 n3
      clear hI hb3
      generalize w23.drewN n3 = w24 at hb3' ⊢
      go_wp2_with fail
      go_ret2
      refine ⟨?_, hb3'⟩
      rw [HR.out, ← HB1.out, show num2 (d.length + 2) = sh by rw [HSH.out]; rfl]
      simp
  by_cases hk : code = 193
  · subst hk
    have hdm := dataM_f (.inr HCODE.out)
    have hlen : ∀ t, frameT m.width m.height m.comps = .ok t → t.length ≤ 315000000000000 := fun t h => by have := frameT_len h; omega
    have hbad : ∀ c, frameT m.width m.height m.comps = .bad c → c ≠ 0 := fun c h => frameT_bad h
    have HDM := Lib.hid (And.intro hdm (And.intro hlen hbad)); clear hdm hlen hbad
    obtain ⟨A, c, rfl, hrw, _⟩ := HM.out.c
    go_wp2_with fail
    refine (frameText_any m.kind m.width m.height m.comps A _ c w1 hrw (by have := HOK.out.fewC; omega) HOK.out.comps).mono ?_
    rintro e wz ⟨he, hb4⟩
    have hI := hI0.below hb4
    have hb3 := below_then hb hb4
    clear hb hb4 hI0 g0 g3 g4 g5 g6 g7 g8 g9 g10 g11 g12
    have HE := Lib.hid he; clear he
    cases hr : frameT m.width m.height m.comps with
    | bad c =>
      have h9 := HE.out
      rw [hr] at h9
      subst h9
      have hc0 := HDM.out.2.2 c hr
      have hres : textM m = .bad c := by rw [HTX.out, HDM.out.1, hr]
      have HR := Lib.hid hres; clear hres hr HE
      have hcb : ((c : Int) != 0) = true := by simpa using hc0
      have hcb2 : ¬ ((c : Int) = 0) := by omega
      have hI1 := hI.1
      go_wp2_with fail
      go_ret2
      exact ⟨by rw [HR.out]; rfl, hb3⟩
    | ok d =>
      have h9 := HE.out
      rw [hr] at h9
      subst h9
      have hdl := HDM.out.2.1 d hr
      have HT := Lib.hid (show (65533 < d.length → textM m = .bad 152) ∧ (¬ 65533 < d.length → textM m = .ok (255 :: UInt8.ofNat 193 :: (num2 (d.length + 2) ++ d))) from ⟨fun h => by rw [HTX.out, HDM.out.1, hr]; exact if_pos h, fun h => by rw [HTX.out, HDM.out.1, hr, HCODE.out]; exact if_neg h⟩)
      clear hr HE HDM HTX
      by_cases hbig : 65533 < d.length
      · have hr := HT.out.1 hbig
        have HR := Lib.hid hr; clear hr
        have hz := Bs_size d
        go_wp2_with fail
        go_ret2
        exact ⟨by rw [HR.out]; rfl, hb3⟩
      have hr := HT.out.2 hbig
      have HR := Lib.hid hr; clear hr HT
      have hz := Bs_size d
      have u1 : IntKind.i64.wrap (193 : Int) = 193 := IntWalk.i64_in _ (by omega)
      have u2 : IntKind.i64.wrap ((d.length : Int) + 2) = (d.length : Int) + 2 := IntWalk.i64_in _ (by omega)
      have c0 := hI.1
      go_upto_region 23 with fail
      clear c0
      refine Lex3.wp_region_lex [] (GI s 193) (fun u n h => h) hI (by kernel_rfl) (by kernel_rfl) ?_
      have hI' := hI.drewN 1
      have hb3' := below_drewN hb3 1
      clear hI hb3
      have hI : GI s 193 wz.drew := hI'
      have hb3 : Below w.heap.size w wz.drew := hb3'
      clear hI' hb3'
      generalize wz.drew = wA at hI hb3 ⊢
      try simp only [Act.put, zA, zB, zC]
      refine Lex3.run_eff (by rfl) (by rfl) (fun n21 K21 hK21 => ?_)
      go_simp
      refine (byteOf_any 255 (wA.drewN n21) (by omega)).mono ?_
      rintro e w21 ⟨rfl, hb21⟩
      have hJ := (hI.drewN n21).below hb21
      refine hK21 _ _ hJ ?_
      clear hK21 K21 hI
      have hI := hJ
      clear hJ
      have hb3' := below_then (below_drewN hb3 n21) hb21
      clear hb3 hb21
      have hb3 := hb3'
      clear hb3'
      try simp only [Act.put, zA, zB, zC]

      rw [show UInt8.ofNat 255 = 255 from rfl]
      refine Lex3.run_free (v := ?_) (by rfl) (by rfl) (fun u => ?_) ?_; rotate_left; (go_simp; try with_reducible rfl); simp only [Act.put, zA, zB, zC]
      refine Lex3.run_load (v := ?_) (by rfl) (by rfl) (fun u hu => ?_) ?_; rotate_left; (have hu0 := hu.1; go_simp; try with_reducible rfl); simp only [Act.put, zA, zB, zC]
      refine Lex3.run_free (v := ?_) (by rfl) (by rfl) (fun u => ?_) ?_; rotate_left; (go_simp; try with_reducible rfl); simp only [Act.put, zA, zB, zC]
      refine Lex3.run_eff (by rfl) (by rfl) (fun n22 K22 hK22 => ?_)
      go_simp
      refine (byteOf_any 193 (w21.drewN n22) (by omega)).mono ?_
      rintro e w22 ⟨rfl, hb22⟩
      have hJ := (hI.drewN n22).below hb22
      refine hK22 _ _ hJ ?_
      clear hK22 K22 hI
      have hI := hJ
      clear hJ
      have hb3' := below_then (below_drewN hb3 n22) hb22
      clear hb3 hb22
      have hb3 := hb3'
      clear hb3'
      try simp only [Act.put, zA, zB, zC]

      generalize hB1 : UInt8.ofNat 193 = B1
      have HB1 := Lib.hid hB1; clear hB1
      refine run_add (by rfl) (by rfl) rfl rfl rfl (by simp only [List.length_cons, List.length_nil]; omega) ?_; simp only [Act.put, zA, zB, zC]
      iterate 3 (refine Lex3.run_free (v := ?_) (by rfl) (by rfl) (fun u => ?_) ?_; rotate_left; (go_simp; try with_reducible rfl); simp only [Act.put, zA, zB, zC])
      refine Lex3.run_eff (by rfl) (by rfl) (fun n23 K23 hK23 => ?_)
      go_simp
      refine (number_any ((d.length : Int) + 2) (w22.drewN n23) (by omega) (by omega)).mono ?_
      rintro e w23 ⟨sh, rfl, hsh, hb23⟩
      have hJ := (hI.drewN n23).below hb23
      refine hK23 _ _ hJ ?_
      clear hK23 K23 hI
      have hI := hJ
      clear hJ
      have hb3' := below_then (below_drewN hb3 n23) hb23
      clear hb3 hb23
      have hb3 := hb3'
      clear hb3'
      try simp only [Act.put, zA, zB, zC]

      have hsh1 := hsh.1
      have HSH := Lib.hid (hsh.2 (by omega) (by omega)); clear hsh
      refine run_add (by rfl) (by rfl) rfl rfl rfl (by simp only [List.length_cons, List.length_nil]; omega) ?_; simp only [Act.put, zA, zB, zC]
      refine Lex3.run_free (v := ?_) (by rfl) (by rfl) (fun u => ?_) ?_; rotate_left; (go_simp; try with_reducible rfl); simp only [Act.put, zA, zB, zC]
      refine run_add (by rfl) (by rfl) rfl rfl rfl (by simp only [List.length_append, List.length_cons, List.length_nil]; omega) ?_; simp only [Act.put, zA, zB, zC]
      iterate 2 (refine Lex3.run_free (v := ?_) (by rfl) (by rfl) (fun u => ?_) ?_; rotate_left; (go_simp; try with_reducible rfl); simp only [Act.put, zA, zB, zC])
      refine Lex3.run_nil (fun n3 => ?_)
      have hb3' := below_drewN hb3 n3
      clear hI hb3
      generalize w23.drewN n3 = w24 at hb3' ⊢
      go_wp2_with fail
      go_ret2
      refine ⟨?_, hb3'⟩
      rw [HR.out, ← HB1.out, show num2 (d.length + 2) = sh by rw [HSH.out]; rfl]
      simp
  by_cases hk : code = 218
  · subst hk
    have hdm := dataM_s HCODE.out
    have hlen : ∀ t, scanT m.ids m.parts = .ok t → t.length ≤ 315000000000000 := fun t h => by have := scanT_len h; omega
    have hbad : ∀ c, scanT m.ids m.parts = .bad c → c ≠ 0 := fun c h => scanT_bad h
    have HDM := Lib.hid (And.intro hdm (And.intro hlen hbad)); clear hdm hlen hbad
    obtain ⟨A, c, rfl, hsi⟩ := HM.out.i
    obtain ⟨B, d, rfl, hrw⟩ := HM.out.p
    go_wp2_with fail
    refine (scanText_any m.ids m.parts A _ c B _ d w1 hsi hrw HOK.out.ids HOK.out.parts (by have := HOK.out.fewI; omega) (by have := HOK.out.fewP; omega)).mono ?_
    rintro e wz ⟨he, hb4⟩
    have hI := hI0.below hb4
    have hb3 := below_then hb hb4
    clear hb hb4 hI0 g0 g3 g4 g5 g6 g7 g8 g9 g10 g11 g12
    have HE := Lib.hid he; clear he
    cases hr : scanT m.ids m.parts with
    | bad c =>
      have h9 := HE.out
      rw [hr] at h9
      subst h9
      have hc0 := HDM.out.2.2 c hr
      have hres : textM m = .bad c := by rw [HTX.out, HDM.out.1, hr]
      have HR := Lib.hid hres; clear hres hr HE
      have hcb : ((c : Int) != 0) = true := by simpa using hc0
      have hcb2 : ¬ ((c : Int) = 0) := by omega
      have hI1 := hI.1
      go_wp2_with fail
      go_ret2
      exact ⟨by rw [HR.out]; rfl, hb3⟩
    | ok d =>
      have h9 := HE.out
      rw [hr] at h9
      subst h9
      have hdl := HDM.out.2.1 d hr
      have HT := Lib.hid (show (65533 < d.length → textM m = .bad 152) ∧ (¬ 65533 < d.length → textM m = .ok (255 :: UInt8.ofNat 218 :: (num2 (d.length + 2) ++ d))) from ⟨fun h => by rw [HTX.out, HDM.out.1, hr]; exact if_pos h, fun h => by rw [HTX.out, HDM.out.1, hr, HCODE.out]; exact if_neg h⟩)
      clear hr HE HDM HTX
      by_cases hbig : 65533 < d.length
      · have hr := HT.out.1 hbig
        have HR := Lib.hid hr; clear hr
        have hz := Bs_size d
        go_wp2_with fail
        go_ret2
        exact ⟨by rw [HR.out]; rfl, hb3⟩
      have hr := HT.out.2 hbig
      have HR := Lib.hid hr; clear hr HT
      have hz := Bs_size d
      have u1 : IntKind.i64.wrap (218 : Int) = 218 := IntWalk.i64_in _ (by omega)
      have u2 : IntKind.i64.wrap ((d.length : Int) + 2) = (d.length : Int) + 2 := IntWalk.i64_in _ (by omega)
      have c0 := hI.1
      go_upto_region 23 with fail
      clear c0
      refine Lex3.wp_region_lex [] (GI s 218) (fun u n h => h) hI (by kernel_rfl) (by kernel_rfl) ?_
      have hI' := hI.drewN 1
      have hb3' := below_drewN hb3 1
      clear hI hb3
      have hI : GI s 218 wz.drew := hI'
      have hb3 : Below w.heap.size w wz.drew := hb3'
      clear hI' hb3'
      generalize wz.drew = wA at hI hb3 ⊢
      try simp only [Act.put, zA, zB, zC]
      refine Lex3.run_eff (by rfl) (by rfl) (fun n21 K21 hK21 => ?_)
      go_simp
      refine (byteOf_any 255 (wA.drewN n21) (by omega)).mono ?_
      rintro e w21 ⟨rfl, hb21⟩
      have hJ := (hI.drewN n21).below hb21
      refine hK21 _ _ hJ ?_
      clear hK21 K21 hI
      have hI := hJ
      clear hJ
      have hb3' := below_then (below_drewN hb3 n21) hb21
      clear hb3 hb21
      have hb3 := hb3'
      clear hb3'
      try simp only [Act.put, zA, zB, zC]

      rw [show UInt8.ofNat 255 = 255 from rfl]
      refine Lex3.run_free (v := ?_) (by rfl) (by rfl) (fun u => ?_) ?_; rotate_left; (go_simp; try with_reducible rfl); simp only [Act.put, zA, zB, zC]
      refine Lex3.run_load (v := ?_) (by rfl) (by rfl) (fun u hu => ?_) ?_; rotate_left; (have hu0 := hu.1; go_simp; try with_reducible rfl); simp only [Act.put, zA, zB, zC]
      refine Lex3.run_free (v := ?_) (by rfl) (by rfl) (fun u => ?_) ?_; rotate_left; (go_simp; try with_reducible rfl); simp only [Act.put, zA, zB, zC]
      refine Lex3.run_eff (by rfl) (by rfl) (fun n22 K22 hK22 => ?_)
      go_simp
      refine (byteOf_any 218 (w21.drewN n22) (by omega)).mono ?_
      rintro e w22 ⟨rfl, hb22⟩
      have hJ := (hI.drewN n22).below hb22
      refine hK22 _ _ hJ ?_
      clear hK22 K22 hI
      have hI := hJ
      clear hJ
      have hb3' := below_then (below_drewN hb3 n22) hb22
      clear hb3 hb22
      have hb3 := hb3'
      clear hb3'
      try simp only [Act.put, zA, zB, zC]

      generalize hB1 : UInt8.ofNat 218 = B1
      have HB1 := Lib.hid hB1; clear hB1
      refine run_add (by rfl) (by rfl) rfl rfl rfl (by simp only [List.length_cons, List.length_nil]; omega) ?_; simp only [Act.put, zA, zB, zC]
      iterate 3 (refine Lex3.run_free (v := ?_) (by rfl) (by rfl) (fun u => ?_) ?_; rotate_left; (go_simp; try with_reducible rfl); simp only [Act.put, zA, zB, zC])
      refine Lex3.run_eff (by rfl) (by rfl) (fun n23 K23 hK23 => ?_)
      go_simp
      refine (number_any ((d.length : Int) + 2) (w22.drewN n23) (by omega) (by omega)).mono ?_
      rintro e w23 ⟨sh, rfl, hsh, hb23⟩
      have hJ := (hI.drewN n23).below hb23
      refine hK23 _ _ hJ ?_
      clear hK23 K23 hI
      have hI := hJ
      clear hJ
      have hb3' := below_then (below_drewN hb3 n23) hb23
      clear hb3 hb23
      have hb3 := hb3'
      clear hb3'
      try simp only [Act.put, zA, zB, zC]

      have hsh1 := hsh.1
      have HSH := Lib.hid (hsh.2 (by omega) (by omega)); clear hsh
      refine run_add (by rfl) (by rfl) rfl rfl rfl (by simp only [List.length_cons, List.length_nil]; omega) ?_; simp only [Act.put, zA, zB, zC]
      refine Lex3.run_free (v := ?_) (by rfl) (by rfl) (fun u => ?_) ?_; rotate_left; (go_simp; try with_reducible rfl); simp only [Act.put, zA, zB, zC]
      refine run_add (by rfl) (by rfl) rfl rfl rfl (by simp only [List.length_append, List.length_cons, List.length_nil]; omega) ?_; simp only [Act.put, zA, zB, zC]
      iterate 2 (refine Lex3.run_free (v := ?_) (by rfl) (by rfl) (fun u => ?_) ?_; rotate_left; (go_simp; try with_reducible rfl); simp only [Act.put, zA, zB, zC])
      refine Lex3.run_nil (fun n3 => ?_)
      have hb3' := below_drewN hb3 n3
      clear hI hb3
      generalize w23.drewN n3 = w24 at hb3' ⊢
      go_wp2_with fail
      go_ret2
      refine ⟨?_, hb3'⟩
      rw [HR.out, ← HB1.out, show num2 (d.length + 2) = sh by rw [HSH.out]; rfl]
      simp
  by_cases hk : code = 221
  · subst hk
    have hdm := dataM_r HCODE.out
    obtain ⟨r1, r2⟩ := HOK.out.rs
    have HDM := Lib.hid hdm; clear hdm
    generalize m.restart = r at g11 r1 r2 HDM
    by_cases hneg : r < 0
    · have hres : textM m = .bad 3 := by rw [HTX.out, HDM.out, if_pos (.inl hneg)]
      have HR := Lib.hid hres; clear hres
      go_wp2_with fail
      refine (number_any r w1 r1 r2).mono ?_
      rintro e wz ⟨sh, rfl, hsh, hb4⟩
      clear hsh
      go_wp2_with fail
      go_ret2
      exact ⟨by rw [HR.out]; rfl, below_then hb hb4⟩
    by_cases hbg : 65535 < r
    · have hres : textM m = .bad 3 := by rw [HTX.out, HDM.out, if_pos (.inr hbg)]
      have HR := Lib.hid hres; clear hres
      go_wp2_with fail
      refine (number_any r w1 r1 r2).mono ?_
      rintro e wz ⟨sh, rfl, hsh, hb4⟩
      clear hsh
      go_wp2_with fail
      go_ret2
      exact ⟨by rw [HR.out]; rfl, below_then hb hb4⟩
    have hdm2 := HDM.out
    rw [if_neg (by omega)] at hdm2
    have HDM2 := Lib.hid hdm2; clear hdm2 HDM
    go_wp2_with fail
    refine (number_any r w1 r1 r2).mono ?_
    rintro e wz ⟨d, rfl, hsh, hb4⟩
    have hdl : d.length ≤ 315000000000000 := by have := hsh.1; omega
    have hI := hI0.below hb4
    have hb3 := below_then hb hb4
    clear hb hb4 hI0 g0 g3 g4 g5 g6 g7 g8 g9 g10 g11 g12
    have hdd := hsh.2 (by omega) (by omega)
    have hr := HDM2.out
    rw [← hdd] at hr
    have HT := Lib.hid (show (65533 < d.length → textM m = .bad 152) ∧ (¬ 65533 < d.length → textM m = .ok (255 :: UInt8.ofNat 221 :: (num2 (d.length + 2) ++ d))) from ⟨fun h => by rw [HTX.out, hr]; exact if_pos h, fun h => by rw [HTX.out, hr, HCODE.out]; exact if_neg h⟩)
    clear hr HDM2 HTX hdd hsh
    by_cases hbig : 65533 < d.length
    · have hr := HT.out.1 hbig
      have HR := Lib.hid hr; clear hr
      have hz := Bs_size d
      go_wp2_with fail
      go_ret2
      exact ⟨by rw [HR.out]; rfl, hb3⟩
    have hr := HT.out.2 hbig
    have HR := Lib.hid hr; clear hr HT
    have hz := Bs_size d
    have u1 : IntKind.i64.wrap (221 : Int) = 221 := IntWalk.i64_in _ (by omega)
    have u2 : IntKind.i64.wrap ((d.length : Int) + 2) = (d.length : Int) + 2 := IntWalk.i64_in _ (by omega)
    have c0 := hI.1
    go_upto_region 23 with fail
    clear c0
    refine Lex3.wp_region_lex [] (GI s 221) (fun u n h => h) hI (by kernel_rfl) (by kernel_rfl) ?_
    have hI' := hI.drewN 1
    have hb3' := below_drewN hb3 1
    clear hI hb3
    have hI : GI s 221 wz.drew := hI'
    have hb3 : Below w.heap.size w wz.drew := hb3'
    clear hI' hb3'
    generalize wz.drew = wA at hI hb3 ⊢
    try simp only [Act.put, zA, zB, zC]
    refine Lex3.run_eff (by rfl) (by rfl) (fun n21 K21 hK21 => ?_)
    go_simp
    refine (byteOf_any 255 (wA.drewN n21) (by omega)).mono ?_
    rintro e w21 ⟨rfl, hb21⟩
    have hJ := (hI.drewN n21).below hb21
    refine hK21 _ _ hJ ?_
    clear hK21 K21 hI
    have hI := hJ
    clear hJ
    have hb3' := below_then (below_drewN hb3 n21) hb21
    clear hb3 hb21
    have hb3 := hb3'
    clear hb3'
    try simp only [Act.put, zA, zB, zC]

    rw [show UInt8.ofNat 255 = 255 from rfl]
    refine Lex3.run_free (v := ?_) (by rfl) (by rfl) (fun u => ?_) ?_; rotate_left; (go_simp; try with_reducible rfl); simp only [Act.put, zA, zB, zC]
    refine Lex3.run_load (v := ?_) (by rfl) (by rfl) (fun u hu => ?_) ?_; rotate_left; (have hu0 := hu.1; go_simp; try with_reducible rfl); simp only [Act.put, zA, zB, zC]
    refine Lex3.run_free (v := ?_) (by rfl) (by rfl) (fun u => ?_) ?_; rotate_left; (go_simp; try with_reducible rfl); simp only [Act.put, zA, zB, zC]
    refine Lex3.run_eff (by rfl) (by rfl) (fun n22 K22 hK22 => ?_)
    go_simp
    refine (byteOf_any 221 (w21.drewN n22) (by omega)).mono ?_
    rintro e w22 ⟨rfl, hb22⟩
    have hJ := (hI.drewN n22).below hb22
    refine hK22 _ _ hJ ?_
    clear hK22 K22 hI
    have hI := hJ
    clear hJ
    have hb3' := below_then (below_drewN hb3 n22) hb22
    clear hb3 hb22
    have hb3 := hb3'
    clear hb3'
    try simp only [Act.put, zA, zB, zC]

    generalize hB1 : UInt8.ofNat 221 = B1
    have HB1 := Lib.hid hB1; clear hB1
    refine run_add (by rfl) (by rfl) rfl rfl rfl (by simp only [List.length_cons, List.length_nil]; omega) ?_; simp only [Act.put, zA, zB, zC]
    iterate 3 (refine Lex3.run_free (v := ?_) (by rfl) (by rfl) (fun u => ?_) ?_; rotate_left; (go_simp; try with_reducible rfl); simp only [Act.put, zA, zB, zC])
    refine Lex3.run_eff (by rfl) (by rfl) (fun n23 K23 hK23 => ?_)
    go_simp
    refine (number_any ((d.length : Int) + 2) (w22.drewN n23) (by omega) (by omega)).mono ?_
    rintro e w23 ⟨sh, rfl, hsh, hb23⟩
    have hJ := (hI.drewN n23).below hb23
    refine hK23 _ _ hJ ?_
    clear hK23 K23 hI
    have hI := hJ
    clear hJ
    have hb3' := below_then (below_drewN hb3 n23) hb23
    clear hb3 hb23
    have hb3 := hb3'
    clear hb3'
    try simp only [Act.put, zA, zB, zC]

    have hsh1 := hsh.1
    have HSH := Lib.hid (hsh.2 (by omega) (by omega)); clear hsh
    refine run_add (by rfl) (by rfl) rfl rfl rfl (by simp only [List.length_cons, List.length_nil]; omega) ?_; simp only [Act.put, zA, zB, zC]
    refine Lex3.run_free (v := ?_) (by rfl) (by rfl) (fun u => ?_) ?_; rotate_left; (go_simp; try with_reducible rfl); simp only [Act.put, zA, zB, zC]
    refine run_add (by rfl) (by rfl) rfl rfl rfl (by simp only [List.length_append, List.length_cons, List.length_nil]; omega) ?_; simp only [Act.put, zA, zB, zC]
    iterate 2 (refine Lex3.run_free (v := ?_) (by rfl) (by rfl) (fun u => ?_) ?_; rotate_left; (go_simp; try with_reducible rfl); simp only [Act.put, zA, zB, zC])
    refine Lex3.run_nil (fun n3 => ?_)
    have hb3' := below_drewN hb3 n3
    clear hI hb3
    generalize w23.drewN n3 = w24 at hb3' ⊢
    go_wp2_with fail
    go_ret2
    refine ⟨?_, hb3'⟩
    rw [HR.out, ← HB1.out, show num2 (d.length + 2) = sh by rw [HSH.out]; rfl]
    simp
  have hdm := dataM_d (m := m) (by rw [HCODE.out]; omega)
  have hdl : m.data.length ≤ 315000000000000 := by have := HOK.out.fewD; omega
  have HT := Lib.hid (show (65533 < m.data.length → textM m = .bad 152) ∧ (¬ 65533 < m.data.length → textM m = .ok (255 :: UInt8.ofNat code :: (num2 (m.data.length + 2) ++ m.data))) from ⟨fun h => by rw [HTX.out, hdm]; exact if_pos h, fun h => by rw [HTX.out, hdm, HCODE.out]; exact if_neg h⟩)
  clear HTX hdm
  generalize m.data = d at hdl HT g12 ⊢
  have hI := hI0
  have hb3 := hb
  have q1 : ((code : Int) == 219) = false := beq_false_of_ne (by omega)
  have q2 : ((code : Int) == 196) = false := beq_false_of_ne (by omega)
  have q3 : ((code : Int) == 218) = false := beq_false_of_ne (by omega)
  have q4 : ((code : Int) == 221) = false := beq_false_of_ne (by omega)
  have q5 : (code == 192 || code == 193) = false := by simp; omega
  have q6 : (code == 192) = false := beq_false_of_ne (by omega)
  have q7 : (code == 193) = false := beq_false_of_ne (by omega)
  clear hI0 hb g3 g4 g5 g6 g7 g8 g9 g10 g11
  generalize hwz : w1 = wz at *
  clear hwz
  by_cases hbig : 65533 < d.length
  · have hr := HT.out.1 hbig
    have HR := Lib.hid hr; clear hr
    have hz := Bs_size d
    go_wp2_with fail
    go_ret2
    exact ⟨by rw [HR.out]; rfl, hb3⟩
  have hr := HT.out.2 hbig
  have HR := Lib.hid hr; clear hr HT
  have hz := Bs_size d
  have u1 : IntKind.i64.wrap (code : Int) = code := IntWalk.i64_in _ (by omega)
  have u2 : IntKind.i64.wrap ((d.length : Int) + 2) = (d.length : Int) + 2 := IntWalk.i64_in _ (by omega)
  have c0 := hI.1
  go_upto_region 23 with fail
  clear c0
  refine Lex3.wp_region_lex [] (GI s code) (fun u n h => h) hI (by kernel_rfl) (by kernel_rfl) ?_
  have hI' := hI.drewN 1
  have hb3' := below_drewN hb3 1
  clear hI hb3
  have hI : GI s code wz.drew := hI'
  have hb3 : Below w.heap.size w wz.drew := hb3'
  clear hI' hb3'
  generalize wz.drew = wA at hI hb3 ⊢
  try simp only [Act.put, zA, zB, zC]
  refine Lex3.run_eff (by rfl) (by rfl) (fun n21 K21 hK21 => ?_)
  go_simp
  refine (byteOf_any 255 (wA.drewN n21) (by omega)).mono ?_
  rintro e w21 ⟨rfl, hb21⟩
  have hJ := (hI.drewN n21).below hb21
  refine hK21 _ _ hJ ?_
  clear hK21 K21 hI
  have hI := hJ
  clear hJ
  have hb3' := below_then (below_drewN hb3 n21) hb21
  clear hb3 hb21
  have hb3 := hb3'
  clear hb3'
  try simp only [Act.put, zA, zB, zC]

  rw [show UInt8.ofNat 255 = 255 from rfl]
  refine Lex3.run_free (v := ?_) (by rfl) (by rfl) (fun u => ?_) ?_; rotate_left; (go_simp; try with_reducible rfl); simp only [Act.put, zA, zB, zC]
  refine Lex3.run_load (v := ?_) (by rfl) (by rfl) (fun u hu => ?_) ?_; rotate_left; (have hu0 := hu.1; go_simp; try with_reducible rfl); simp only [Act.put, zA, zB, zC]
  refine Lex3.run_free (v := ?_) (by rfl) (by rfl) (fun u => ?_) ?_; rotate_left; (go_simp; try with_reducible rfl); simp only [Act.put, zA, zB, zC]
  refine Lex3.run_eff (by rfl) (by rfl) (fun n22 K22 hK22 => ?_)
  go_simp
  refine (byteOf_any code (w21.drewN n22) (by omega)).mono ?_
  rintro e w22 ⟨rfl, hb22⟩
  have hJ := (hI.drewN n22).below hb22
  refine hK22 _ _ hJ ?_
  clear hK22 K22 hI
  have hI := hJ
  clear hJ
  have hb3' := below_then (below_drewN hb3 n22) hb22
  clear hb3 hb22
  have hb3 := hb3'
  clear hb3'
  try simp only [Act.put, zA, zB, zC]

  generalize hB1 : UInt8.ofNat code = B1
  have HB1 := Lib.hid hB1; clear hB1
  refine run_add (by rfl) (by rfl) rfl rfl rfl (by simp only [List.length_cons, List.length_nil]; omega) ?_; simp only [Act.put, zA, zB, zC]
  iterate 3 (refine Lex3.run_free (v := ?_) (by rfl) (by rfl) (fun u => ?_) ?_; rotate_left; (go_simp; try with_reducible rfl); simp only [Act.put, zA, zB, zC])
  refine Lex3.run_eff (by rfl) (by rfl) (fun n23 K23 hK23 => ?_)
  go_simp
  refine (number_any ((d.length : Int) + 2) (w22.drewN n23) (by omega) (by omega)).mono ?_
  rintro e w23 ⟨sh, rfl, hsh, hb23⟩
  have hJ := (hI.drewN n23).below hb23
  refine hK23 _ _ hJ ?_
  clear hK23 K23 hI
  have hI := hJ
  clear hJ
  have hb3' := below_then (below_drewN hb3 n23) hb23
  clear hb3 hb23
  have hb3 := hb3'
  clear hb3'
  try simp only [Act.put, zA, zB, zC]

  have hsh1 := hsh.1
  have HSH := Lib.hid (hsh.2 (by omega) (by omega)); clear hsh
  refine run_add (by rfl) (by rfl) rfl rfl rfl (by simp only [List.length_cons, List.length_nil]; omega) ?_; simp only [Act.put, zA, zB, zC]
  refine Lex3.run_free (v := ?_) (by rfl) (by rfl) (fun u => ?_) ?_; rotate_left; (go_simp; try with_reducible rfl); simp only [Act.put, zA, zB, zC]
  refine run_add (by rfl) (by rfl) rfl rfl rfl (by simp only [List.length_append, List.length_cons, List.length_nil]; omega) ?_; simp only [Act.put, zA, zB, zC]
  iterate 2 (refine Lex3.run_free (v := ?_) (by rfl) (by rfl) (fun u => ?_) ?_; rotate_left; (go_simp; try with_reducible rfl); simp only [Act.put, zA, zB, zC])
  refine Lex3.run_nil (fun n3 => ?_)
  have hb3' := below_drewN hb3 n3
  clear hI hb3
  generalize w23.drewN n3 = w24 at hb3' ⊢
  go_wp2_with fail
  go_ret2
  refine ⟨?_, hb3'⟩
  rw [HR.out, ← HB1.out, show num2 (d.length + 2) = sh by rw [HSH.out]; rfl]
  simp
end Go.Proofs.YtjfgfoeenajneaaGreatDoor.Sg
namespace Go.Proofs.YtjfgfoeenajneaaGreatDoor.Sg
open Go.RowKit

/-- what the program says of steps -/
def qcM (t : List Nat) (wide : Bool) : Nat := if zeroM t then 80 else if largeM t && !wide then 3 else 0
set_option maxRecDepth 100000 in
set_option maxHeartbeats 4000000 in
theorem quantCheck_any (t : List Nat) (wide : Bool) (g o : Nat) (w : World) (ht : t.length = 64) (hc : ∀ j, j < 64 → w.cell? ⟨g, o + j, none⟩ = some (.int .u16 (t.getD j 0 : Nat))) :
    Calls Tryz.prog 93 #[.pointer (some ⟨g, o, none⟩), .bool wide] w fun e w' => e = .returned (.int .i64 (qcM t wide : Nat)) ∧ w = w' := by
  have HC := Lib.hid hc; clear hc
  have HT := Lib.hid ht; clear ht
  go_enter Tryz.func93, Tryz.ntmps93
  go_wp2_with fail
  go_loop [5, 11] (fun e i => ∃ k : Nat, k ≤ 64 ∧ i = .int .i64 k ∧ (t.take k).any (· == 0) = false ∧ e = .int .i64 (if (t.take k).any (fun x => decide (255 < x)) && !wide then 3 else 0)) (fun _ i => 64 - (intOf i).toNat)
  case atStart => exact ⟨0, by omega, rfl, rfl, rfl⟩
  case round =>
    obtain ⟨k, hk, rfl, hz, rfl⟩ := hrel
    by_cases hlt : k < 64
    · have c := HC.out k hlt
      have n1 := any_take_next t (· == 0) k (by rw [HT.out]; exact hlt)
      have n2 := any_take_next t (fun x => decide (255 < x)) k (by rw [HT.out]; exact hlt)
      rw [hz, Bool.false_or] at n1
      have hzz : t.getD k 0 = 0 → zeroM t = true := fun h => any_at t (· == 0) k (by rw [HT.out]; exact hlt) (by show (t.getD k 0 == 0) = true; rw [h]; rfl)
      have HN := Lib.hid (And.intro n1 (And.intro n2 hzz)); clear n1 n2 hzz hz
      generalize t.getD k 0 = x at c HN
      generalize hL : (t.take k).any (fun x => decide (255 < x)) = L at HN ⊢
      clear hL
      generalize hE : (if L && !wide then (3 : Int) else 0) = E
      have HE := Lib.hid hE; clear hE
      by_cases hx : x = 0
      · have hres : qcM t wide = 80 := by unfold qcM; rw [HN.out.2.2 hx]; rfl
        subst hx
        have HR := Lib.hid hres; clear hres
        go_wp2_with fail
        go_ret
        exact ⟨by rw [HR.out]; rfl, rfl⟩
      have hx0 : ((x : Int) == 0) = false := beq_false_of_ne (by omega)
      have hx1 : (x == 0) = false := beq_false_of_ne hx
      by_cases hb : 255 < x
      · have hb1 : decide (255 < (x : Int)) = true := decide_eq_true (by omega)
        cases wide
        · go_wp2_with fail
          go_round
          case rel => exact ⟨k + 1, by omega, by go_num, by rw [HN.out.1, hx1], by rw [HN.out.2.1, decide_eq_true hb]; simp⟩
          case measure => simp [intOf]; omega
        · go_wp2_with fail
          go_round
          case rel => exact ⟨k + 1, by omega, by go_num, by rw [HN.out.1, hx1], by rw [← HE.out]; simp⟩
          case measure => simp [intOf]; omega
      · have hb1 : decide (255 < (x : Int)) = false := decide_eq_false (by omega)
        go_wp2_with fail
        go_round
        case rel => exact ⟨k + 1, by omega, by go_num, by rw [HN.out.1, hx1], by rw [HN.out.2.1, decide_eq_false hb, ← HE.out]; simp⟩
        case measure => simp [intOf]; omega
    · obtain rfl : k = 64 := by omega
      have hall : t.take 64 = t := List.take_of_length_le (by rw [HT.out]; exact Nat.le_refl _)
      rw [hall] at hz ⊢
      have hres : (qcM t wide : Int) = if largeM t && !wide then 3 else 0 := by
        unfold qcM
        rw [show zeroM t = false from hz]
        cases largeM t && !wide <;> rfl
      have hres2 : (if (t.any fun x => decide (255 < x)) && !wide then (3 : Int) else 0) = (qcM t wide : Nat) := hres.symm
      rw [hres2]
      clear hres hres2 hall hz
      generalize hR : qcM t wide = R
      have HR := Lib.hid hR; clear hR
      go_wp2_with fail
      go_ret
      exact ⟨by rw [HR.out]; rfl, rfl⟩

/-- bytes in a row of their own -/
def OwnB (w : World) (base : Nat) (v : Value) (l : List UInt8) : Prop := w.ownsRow base 5 1 v l.length (u8s (nats l))
theorem infoB : (Tryz.prog.info? 5).map (fun i => (i.zero, i.size, i.bytes)) = some (some (.int .u8 0), 1, 1) := by kernel_rfl
theorem laid_new (w : World) (ty : TypeId) (xs : List Value) : ∀ j u, xs[j]? = some u → (w.alloc (.cells xs.toArray ty)).cell? ((⟨w.heap.size, 0, none⟩ : Addr).add j) = some u := by
  intro j u hu
  rw [show (⟨w.heap.size, 0, none⟩ : Addr).add j = ⟨w.heap.size, 0 + j, none⟩ from Addr.add_mid _ _ _, (Blk.new w ty xs.toArray).cell, Nat.zero_add]
  simpa using hu
theorem num2_cells (n : Nat) (h : n ≤ 65535) : [Value.int .u8 ((n : Int) / 256), .int .u8 ((n : Int) % 256)] = u8s (nats (num2 n)) := by
  unfold u8s nats num2
  simp
  omega
theorem OwnB.nil (w : World) (base : Nat) : OwnB w base (.slice none 0 0) [] := World.ownsRow_nil _ _ _ _
theorem u8s_nats_append (a b : List UInt8) : u8s (nats a) ++ u8s (nats b) = u8s (nats (a ++ b)) := by unfold u8s nats; simp
theorem OwnB.grown {w w' : World} {base : Nat} {v : Value} {l : List UInt8} {r : Option Nat} (h : OwnB w base v l) (hg : w.grownBy w' r) (hr : v.ownBlock = none ∨ v.ownBlock ≠ r) : OwnB w' base v l := own_grown h hg hr
theorem OwnB.below {w w' : World} {base : Nat} {v : Value} {l : List UInt8} (h : OwnB w base v l) (hb : Below w.heap.size w w') : OwnB w' base v l := by
  refine own_keep h fun g hg => hb.block g (h.lt g hg).2
set_option maxRecDepth 100000 in
set_option maxHeartbeats 4000000 in
theorem two_own (base : Nat) (v : Value) (l : List UInt8) (n : Nat) (w : World) (hv : OwnB w base v l) (hb : base ≤ w.heap.size) (hn : n ≤ 65535) (hl : l.length ≤ 100000000000000) :
    Calls Tryz.prog 54 #[v, .int .i64 (n : Int)] w fun e w' => ∃ v', e = .returned v' ∧ OwnB w' base v' (l ++ num2 n) ∧ w.grownBy w' v.ownBlock := by
  obtain ⟨ib, ib1, ib2, ib3, ib4⟩ := info_parts infoB
  have IB := Lib.hid (And.intro ib1 (And.intro ib2 (And.intro ib3 ib4))); clear ib1 ib2 ib3 ib4
  have hn0 : (n : Int) ≤ 65535 := by omega
  go_enter Tryz.func54, Tryz.ntmps54
  go_wp2_with (at_builtin; go_loud (refine wpList_append_lies _ rfl (.tmp 5) (.tmp 11) 29 rfl base 5 ib (.int .u8 0) 1 1 Tryz.underlying29 IB.out.1 IB.out.2.1 IB.out.2.2.1 IB.out.2.2.2 rfl (by decide) v l.length (u8s (nats l)) rfl (hv.alloc _) ⟨w.heap.size, 0, none⟩ 2 2 [.int .u8 ((n : Int) / 256), .int .u8 ((n : Int) % 256)] rfl rfl (laid_new _ _ _) (by intro u hu; simp at hu; rcases hu with rfl | rfl <;> rfl) (by decide) (by unfold maxLen; omega) (by omega) (by simp; omega) (w.heap.size + 1) (by simp) ?_; intro gg cap w6 hown6 hgrow6 hat6 hlt6))
  go_ret
  refine ⟨_, rfl, ?_, grown_after (grown_alloc (grown_of_below (Below.refl _ _) v.ownBlock) _) hgrow6⟩
  rw [num2_cells n hn, u8s_nats_append] at hown6
  unfold OwnB
  rw [List.length_append, show (num2 n).length = 2 from rfl]
  exact hown6
end Go.Proofs.YtjfgfoeenajneaaGreatDoor.Sg
