/- The document's bytes of a frame. The document's bytes of a scan's header. -/
import Derived.Test.YtjfgfoeenajneaaGreatDoorGA8
import Derived.Test.YtjfgfoeenajneaaGreatDoorGA7
import Derived.Test.YtjfgfoeenajneaaGreatDoorGA5
namespace Go.Proofs.YtjfgfoeenajneaaGreatDoor.Sg
open Go.RowKit

section
variable {P : Program} {ops : Array Oper} {qs : List FuncId} {I : World → Prop}
theorem run_add {K : Act → World → Prop} {o : Oper} {rest : List Oper} {a : Act} {w : World} {x y : List UInt8} {p q : Operand} {t t' : TypeId} (hc : Lex3.cls qs o = 0) (hw : Region.wanted o (yielded ops a.tmps) = true)
    (ho : o.op = .binOp .add t p q t') (hx : a.eval p = .string (Bs x)) (hy : a.eval q = .string (Bs y)) (hl : x.length + y.length ≤ 9223372036854775807)
    (h : Lex3.Run P ops qs I K rest (a.put o.dst (.string (Bs (x ++ y)))) w) : Lex3.Run P ops qs I K (o :: rest) a w := by
  refine Lex3.run_free hc hw (v := .string (Bs (x ++ y))) (fun u => ?_) h
  unfold execOp
  rw [ho]
  simp only [hx, hy, binOp_string_add]
  have := run_add_Bs P x y u hl
  simp [eqGuard, this]
end
def FI (f : Nat) (wd ht : Int) (v : Value) (u : World) : Prop := u.cell? ⟨f, 1, none⟩ = some (.int .i64 wd) ∧ u.cell? ⟨f, 2, none⟩ = some (.int .i64 ht) ∧ u.cell? ⟨f, 3, none⟩ = some v
theorem FI.below {f : Nat} {wd ht : Int} {v : Value} {u u' : World} (h : FI f wd ht v u) (hb : Below u.heap.size u u') : FI f wd ht v u' := ⟨below_cell hb h.1, below_cell hb h.2.1, below_cell hb h.2.2⟩
theorem FI.drewN {f : Nat} {wd ht : Int} {v : Value} {u : World} (h : FI f wd ht v u) (n : Nat) : FI f wd ht v (u.drewN n) := h
def CI (f : Nat) (a b c d : Nat) (u : World) : Prop := u.cell? ⟨f, 0, none⟩ = some (.int .u8 (a : Int)) ∧ u.cell? ⟨f, 1, none⟩ = some (.int .u8 (b : Int)) ∧ u.cell? ⟨f, 2, none⟩ = some (.int .u8 (c : Int)) ∧ u.cell? ⟨f, 3, none⟩ = some (.int .u8 (d : Int))
theorem CI.below {f a b c d : Nat} {u u' : World} (h : CI f a b c d u) (hb : Below u.heap.size u u') : CI f a b c d u' := ⟨below_cell hb h.1, below_cell hb h.2.1, below_cell hb h.2.2.1, below_cell hb h.2.2.2⟩
theorem CI.drewN {f a b c d : Nat} {u : World} (h : CI f a b c d u) (n : Nat) : CI f a b c d (u.drewN n) := h
def frameT (wd ht : Int) (l : List CompM) : Res (List UInt8) :=
  if framedM wd ht l ≠ 0 then .bad (framedM wd ht l) else .ok (8 :: (num2 ht.toNat ++ num2 wd.toNat ++ [UInt8.ofNat l.length] ++ l.flatMap compB))
theorem framed_geom {wd ht : Int} {l : List CompM} (h : framedM wd ht l = 0) : geomM wd ht l = 0 := by
  unfold framedM at h
  by_cases h1 : ht = 0
  · rw [if_pos h1] at h; cases h
  · rw [if_neg h1] at h
    by_cases h2 : geomM wd ht l = 0
    · exact h2
    · rw [if_neg h2] at h
      by_cases h3 : geomM wd ht l = 142
      · rw [if_pos h3] at h; cases h
      · rw [if_neg h3] at h; cases h
theorem geom_ok {wd ht : Int} {l : List CompM} (h : geomM wd ht l = 0) : (1 ≤ wd ∧ wd ≤ 65535 ∧ 1 ≤ ht ∧ ht ≤ 65535) ∧ (1 ≤ l.length ∧ l.length ≤ 4) ∧ l.any factM = false := by
  unfold geomM at h
  by_cases h1 : wd < 1 ∨ 65535 < wd ∨ ht < 1 ∨ 65535 < ht
  · rw [if_pos h1] at h; cases h
  rw [if_neg h1] at h
  by_cases h2 : l.length < 1 ∨ 4 < l.length
  · rw [if_pos h2] at h; cases h
  rw [if_neg h2] at h
  by_cases h3 : idsM l
  · rw [if_pos h3] at h; cases h
  rw [if_neg h3] at h
  by_cases h4 : l.any factM
  · rw [if_pos h4] at h; cases h
  exact ⟨by omega, by omega, by simpa using h4⟩
theorem fact_ok {l : List CompM} (h : l.any factM = false) {k : Nat} (hk : k < l.length) : 1 ≤ hst4 l k ∧ hst4 l k ≤ 4 ∧ 1 ≤ vst4 l k ∧ vst4 l k ≤ 4 := by
  rw [List.any_eq_false] at h
  have h1 := h l[k] (List.getElem_mem hk)
  unfold factM at h1
  unfold hst4 vst4
  simp only [List.getD_eq_getElem?_getD, List.getElem?_map, List.getElem?_eq_getElem hk, Option.map_some, Option.getD_some]
  simp at h1
  omega
theorem compB_at {l : List CompM} {k : Nat} (hk : k < l.length) : (l.take (k + 1)).flatMap compB = (l.take k).flatMap compB ++ [UInt8.ofNat (fst4 l k)] ++ [UInt8.ofNat (16 * hst4 l k + vst4 l k)] ++ [UInt8.ofNat (qst4 l k)] := by
  rw [List.take_succ_eq_append_getElem hk, List.flatMap_append]
  unfold fst4 hst4 vst4 qst4
  simp only [List.getD_eq_getElem?_getD, List.getElem?_map, List.getElem?_eq_getElem hk, Option.map_some, Option.getD_some]
  unfold compB
  simp
theorem comp_lt2 {l : List CompM} (hb8 : ∀ c ∈ l, c.id < 256 ∧ c.h < 256 ∧ c.v < 256 ∧ c.q < 256) (k : Nat) : fst4 l k < 256 ∧ qst4 l k < 256 := by
  have g : ∀ f : CompM → Nat, (∀ c ∈ l, f c < 256) → (l.map f).getD k 0 < 256 := fun f hf => getD_lt (fun x hx => by
    rw [List.mem_map] at hx
    obtain ⟨c, hc, rfl⟩ := hx
    exact hf c hc) (by decide) k
  exact ⟨g _ fun c hc => (hb8 c hc).1, g _ fun c hc => (hb8 c hc).2.2.2⟩
theorem comps_len : ∀ (l : List CompM), (l.flatMap compB).length = 3 * l.length
  | [] => rfl
  | c :: l => by rw [List.flatMap_cons, List.length_append, comps_len l]; simp [compB]; omega
set_option maxRecDepth 100000 in
set_option maxHeartbeats 16000000 in
theorem frameText_any (kind : Nat) (wd ht : Int) (l : List CompM) (A : Option Addr) (n cap : Nat) (w : World) (hc : Rows 4 w A n (l.flatMap compC)) (hn : n ≤ 1152921504606846976) (hb8 : ∀ c ∈ l, c.id < 256 ∧ c.h < 256 ∧ c.v < 256 ∧ c.q < 256) :
    Calls Tryz.prog 84 #[.agg #[.int .u8 (kind : Int), .int .i64 wd, .int .i64 ht, .slice A n cap]] w (StrP w (frameT wd ht l)) := by
  have hu : Blk (w.alloc (.cells #[.int .u8 (kind : Int), .int .i64 wd, .int .i64 ht, .slice A n cap] 27)) w.heap.size 27 #[.int .u8 (kind : Int), .int .i64 wd, .int .i64 ht, .slice A n cap] := Blk.new w _ _
  have hb : Below w.heap.size w (w.alloc (.cells #[.int .u8 (kind : Int), .int .i64 wd, .int .i64 ht, .slice A n cap] 27)) := (Below.refl _ _).alloc (Nat.le_refl _) _
  have hc1 := hc.below hb
  have hs4 : (Tryz.prog.info? 27).map (·.size) = some (#[.int .u8 (kind : Int), .int .i64 wd, .int .i64 ht, .slice A n cap] : Array Value).size := size4
  have HS4 := Lib.hid hs4; clear hs4 hc
  go_enter Tryz.func84, Tryz.ntmps84
  go_upto_region 1 with fail
  generalize (w.alloc (.cells #[.int .u8 (kind : Int), .int .i64 wd, .int .i64 ht, .slice A n cap] 27)) = w1 at hu hb hc1 ⊢
  generalize hag : w.heap.size = f at hu ⊢
  have HAG := Lib.hid hag; clear hag
  go_wp2_with (refine wpList_load_row rfl _ _ rfl f rfl _ _ _ _ hu Tryz.underlying27 rfl HS4.out ?_)
  refine (framed15_any kind wd ht l A n cap w1 hc1 hn hb8).mono ?_
  rintro e w2 ⟨rfl, hb2⟩
  have hc2 := hc1.below hb2
  have hI : FI f wd ht (.slice A n cap) w2 := FI.below ⟨by rw [hu.cell]; rfl, by rw [hu.cell]; rfl, by rw [hu.cell]; rfl⟩ hb2
  have hb3 := below_then hb hb2
  clear hb hb2 hc1 hu
  by_cases h0 : framedM wd ht l = 0
  case neg =>
    have hres : frameT wd ht l = .bad (framedM wd ht l) := if_pos h0
    have HR := Lib.hid hres; clear hres
    generalize framedM wd ht l = c at h0 HR ⊢
    have hcb : ((c : Int) != 0) = true := by simpa using h0
    have hcb2 : ¬ ((c : Int) = 0) := by omega
    go_wp2_with fail
    go_ret2
    exact ⟨by rw [HR.out]; rfl, hb3⟩
  have hres : frameT wd ht l = .ok _ := if_neg (not_not_intro h0)
  have HR := Lib.hid hres; clear hres
  obtain ⟨⟨g1, g2, g3, g4⟩, ⟨g5, g6⟩, g7⟩ := geom_ok (framed_geom h0)
  rw [h0]
  obtain ⟨hln, hcell⟩ := comps_at hc2
  rw [hln] at g5 g6
  have HG7 := Lib.hid g7
  have HB8 := Lib.hid hb8
  have HLN := Lib.hid hln
  clear h0 hb8 g7 hc2 hln
  go_upto_region 4 with fail
  refine Lex3.wp_region_lex [] (FI f wd ht (.slice A n cap)) (fun u n h => h) hI (by kernel_rfl) (by kernel_rfl) ?_
  have hI' := hI.drewN 1
  have hb3' := below_drewN hb3 1
  have hbw0 := below_drewN (Below.refl w2.heap.size w2) 1
  clear hI hb3
  have hI : FI f wd ht (.slice A n cap) w2.drew := hI'
  have hb3 : Below w.heap.size w w2.drew := hb3'
  have hbw0 : Below w2.heap.size w2 w2.drew := hbw0
  clear hI' hb3'
  generalize w2.drew = w3 at hI hb3 hbw0 ⊢
  refine Lex3.run_eff (by rfl) (by rfl) (fun n4 K4 hK4 => ?_)
  go_simp
  refine (byteOf_any 8 (w3.drewN n4) (by omega)).mono ?_
  rintro e w4 ⟨rfl, hb4⟩
  have hJ := (hI.drewN n4).below hb4
  refine hK4 _ _ hJ ?_
  clear hK4 K4 hI
  have hI := hJ
  clear hJ
  have hb3' := below_then (below_drewN hb3 n4) hb4
  have hbw1 := below_then (below_drewN hbw0 n4) hb4
  clear hb3 hbw0 hb4
  have hbw0 := hbw1
  clear hbw1
  have hb3 := hb3'
  clear hb3'
  try simp only [Act.put, zA, zB, zC]
  refine Lex3.run_free (v := ?_) (by rfl) (by rfl) (fun u => ?_) ?_; rotate_left; (go_simp; try with_reducible rfl); simp only [Act.put, zA, zB, zC]
  refine Lex3.run_load (v := ?_) (by rfl) (by rfl) (fun u hu => ?_) ?_; rotate_left; (obtain ⟨hu0, hu1, hu2⟩ := hu; go_simp; try with_reducible rfl); simp only [Act.put, zA, zB, zC]
  refine Lex3.run_eff (by rfl) (by rfl) (fun n5 K5 hK5 => ?_)
  go_simp
  refine (number_any ht (w4.drewN n5) (by omega) (by omega)).mono ?_
  rintro e w5 ⟨sh, rfl, hsh, hb5⟩
  have hJ := (hI.drewN n5).below hb5
  refine hK5 _ _ hJ ?_
  clear hK5 K5 hI
  have hI := hJ
  clear hJ
  have hb3' := below_then (below_drewN hb3 n5) hb5
  have hbw1 := below_then (below_drewN hbw0 n5) hb5
  clear hb3 hbw0 hb5
  have hbw0 := hbw1
  clear hbw1
  have hb3 := hb3'
  clear hb3'
  try simp only [Act.put, zA, zB, zC]
  have hsh1 := hsh.1
  have HSH := Lib.hid (hsh.2 (by omega) g4); clear hsh
  refine run_add (by rfl) (by rfl) rfl rfl rfl (by simp only [List.length_cons, List.length_nil]; omega) ?_; simp only [Act.put, zA, zB, zC]
  refine Lex3.run_free (v := ?_) (by rfl) (by rfl) (fun u => ?_) ?_; rotate_left; (go_simp; try with_reducible rfl); simp only [Act.put, zA, zB, zC]
  refine Lex3.run_load (v := ?_) (by rfl) (by rfl) (fun u hu => ?_) ?_; rotate_left; (obtain ⟨hu0, hu1, hu2⟩ := hu; go_simp; try with_reducible rfl); simp only [Act.put, zA, zB, zC]
  refine Lex3.run_eff (by rfl) (by rfl) (fun n6 K6 hK6 => ?_)
  go_simp
  refine (number_any wd (w5.drewN n6) (by omega) (by omega)).mono ?_
  rintro e w6 ⟨sw, rfl, hsw, hb6⟩
  have hJ := (hI.drewN n6).below hb6
  refine hK6 _ _ hJ ?_
  clear hK6 K6 hI
  have hI := hJ
  clear hJ
  have hb3' := below_then (below_drewN hb3 n6) hb6
  have hbw1 := below_then (below_drewN hbw0 n6) hb6
  clear hb3 hbw0 hb6
  have hbw0 := hbw1
  clear hbw1
  have hb3 := hb3'
  clear hb3'
  try simp only [Act.put, zA, zB, zC]
  have hsw1 := hsw.1
  have HSW := Lib.hid (hsw.2 (by omega) g2); clear hsw
  refine run_add (by rfl) (by rfl) rfl rfl rfl (by simp only [List.length_cons]; omega) ?_; simp only [Act.put, zA, zB, zC]
  refine Lex3.run_free (v := ?_) (by rfl) (by rfl) (fun u => ?_) ?_; rotate_left; (go_simp; try with_reducible rfl); simp only [Act.put, zA, zB, zC]
  refine Lex3.run_load (v := ?_) (by rfl) (by rfl) (fun u hu => ?_) ?_; rotate_left; (obtain ⟨hu0, hu1, hu2⟩ := hu; go_simp; try with_reducible rfl); simp only [Act.put, zA, zB, zC]
  refine Lex3.run_free (v := ?_) (by rfl) (by rfl) (fun u => ?_) ?_; rotate_left; (go_simp; try with_reducible rfl); simp only [Act.put, zA, zB, zC]
  refine Lex3.run_eff (by rfl) (by rfl) (fun n7 K7 hK7 => ?_)
  go_simp
  refine (byteOf_any n (w6.drewN n7) (by omega)).mono ?_
  rintro e w7 ⟨rfl, hb7⟩
  have hJ := (hI.drewN n7).below hb7
  refine hK7 _ _ hJ ?_
  clear hK7 K7 hI
  have hI := hJ
  clear hJ
  have hb3' := below_then (below_drewN hb3 n7) hb7
  have hbw1 := below_then (below_drewN hbw0 n7) hb7
  clear hb3 hbw0 hb7
  have hbw0 := hbw1
  clear hbw1
  have hb3 := hb3'
  clear hb3'
  try simp only [Act.put, zA, zB, zC]
  refine run_add (by rfl) (by rfl) rfl rfl rfl (by simp only [List.length_append, List.length_cons, List.length_nil]; omega) ?_; simp only [Act.put, zA, zB, zC]
  refine Lex3.run_free (v := ?_) (by rfl) (by rfl) (fun u => ?_) ?_; rotate_left; (go_simp; try with_reducible rfl); simp only [Act.put, zA, zB, zC]
  refine Lex3.run_nil (fun n3 => ?_)
  have hI' := hI.drewN n3
  have hb3' := below_drewN hb3 n3
  have hbw1 := below_drewN hbw0 n3
  clear hI hb3 hbw0
  have hbw0 := hbw1
  clear hbw1
  generalize w7.drewN n3 = w8 at hI' hb3' hbw0 ⊢
  simp only [List.cons_append, List.append_assoc]
  generalize hhd : (8 :: (sh ++ (sw ++ [UInt8.ofNat n])) : List UInt8) = hd
  have HHD := Lib.hid hhd
  have hhl : hd.length = 6 := by rw [← hhd]; simp only [List.length_append, List.length_cons, List.length_nil]; omega
  clear hhd hsh1 hsw1
  generalize (8 :: (sh ++ sw) : List UInt8) = hd2
  generalize (8 :: sh : List UInt8) = hd3
  obtain ⟨i1, i2, i3⟩ := hI'
  obtain ⟨b, o, rfl, hcw⟩ := hcell (by omega)
  have HB := Lib.hid hb3'; clear hb3'
  have HC := Lib.hid hcw; clear hcell hcw
  have hbw : Below w2.heap.size w2 w8 := hbw0
  have HBW := Lib.hid hbw; clear hbw hbw0
  go_wp2_with fail
  go_loopw [5, 6] (fun s i wr => ∃ k : Nat, k ≤ n ∧ i = .int .i64 k ∧ s = .string (Bs (hd ++ (l.take k).flatMap compB)) ∧ Below w8.heap.size w8 wr) (fun _ i _ => n - (intOf i).toNat)
  case atStart => exact ⟨0, by omega, rfl, by simp, Below.refl _ _⟩
  case round =>
    obtain ⟨k, hk, rfl, rfl, hbk⟩ := hrel
    have c3 := below_cell hbk i3
    by_cases hlt : k < n
    · have hkl : k < l.length := by rw [HLN.out]; exact hlt
      have hcc := ((HC.out k hlt).below HBW.out).below hbk
      have hfo := fact_ok HG7.out hkl
      have h8 : fst4 l k < 256 ∧ qst4 l k < 256 := comp_lt2 HB8.out k
      have hnx := compB_at hkl
      have htl := comps_len (l.take k)
      rw [List.length_take] at htl
      obtain ⟨d0, d1, d2, d3⟩ := hcc
      generalize fst4 l k = ca at d0 h8 hnx
      generalize hst4 l k = ch at d1 hfo hnx
      generalize vst4 l k = cv at d2 hfo hnx
      generalize qst4 l k = cq at d3 h8 hnx
      generalize (l.take k).flatMap compB = t at htl hnx ⊢
      have htl' : t.length ≤ 12 := by omega
      have HNX := Lib.hid hnx; clear hnx htl
      go_upto_region 9 with fail
      have hu9 := Blk.new wr 90 #[.int .u8 (ca : Int), .int .u8 (ch : Int), .int .u8 (cv : Int), .int .u8 (cq : Int)]
      have hb3 : Below w8.heap.size w8 (wr.alloc (.cells #[.int .u8 (ca : Int), .int .u8 (ch : Int), .int .u8 (cv : Int), .int .u8 (cq : Int)] 90)) := hbk.alloc (hbk.size) _
      generalize (wr.alloc (.cells #[.int .u8 (ca : Int), .int .u8 (ch : Int), .int .u8 (cv : Int), .int .u8 (cq : Int)] 90)) = w9 at hu9 hb3 ⊢
      generalize wr.heap.size = g at hu9 ⊢
      have hI : CI g ca ch cv cq w9 := ⟨by rw [hu9.cell]; rfl, by rw [hu9.cell]; rfl, by rw [hu9.cell]; rfl, by rw [hu9.cell]; rfl⟩
      have hbw0 : Below w8.heap.size w8 w8 := Below.refl _ _
      clear hu9 c3 d0 d1 d2 d3 hbk
      have z1 : (ca : Int) ≤ 255 := by omega
      have z2 : (ch : Int) ≤ 4 := by omega
      have z3 : (cv : Int) ≤ 4 := by omega
      have z4 : (cq : Int) ≤ 255 := by omega
      have z5 : 1 ≤ (ch : Int) := by omega
      have z6 : 1 ≤ (cv : Int) := by omega
      have y1 : IntKind.i64.wrap (ca : Int) = ca := IntWalk.i64_in _ (by omega)
      have y2 : IntKind.i64.wrap (ch : Int) = ch := IntWalk.i64_in _ (by omega)
      have y3 : IntKind.i64.wrap (cv : Int) = cv := IntWalk.i64_in _ (by omega)
      have y4 : IntKind.i64.wrap (cq : Int) = cq := IntWalk.i64_in _ (by omega)
      have y5 : IntKind.i64.wrap (16 * (ch : Int)) = 16 * (ch : Int) := IntWalk.i64_in _ (by omega)
      have y6 : IntKind.i64.wrap (16 * (ch : Int) + (cv : Int)) = 16 * (ch : Int) + (cv : Int) := IntWalk.i64_in _ (by omega)
      refine Lex3.wp_region_lex [] (CI g ca ch cv cq) (fun u n h => h) hI (by kernel_rfl) (by kernel_rfl) ?_
      have hI' := hI.drewN 1
      have hb3' := below_drewN hb3 1
      have hbw1 := hbw0
      clear hI hb3
      have hI : CI g ca ch cv cq w9.drew := hI'
      have hb3 : Below w8.heap.size w8 w9.drew := hb3'
      clear hI' hb3' hbw1
      generalize w9.drew = wA at hI hb3 ⊢
      try simp only [Act.put, zA, zB, zC]
      iterate 2 (refine Lex3.run_free (v := ?_) (by rfl) (by rfl) (fun u => ?_) ?_; rotate_left; (go_simp; try with_reducible rfl); simp only [Act.put, zA, zB, zC])
      refine Lex3.run_load (v := ?_) (by rfl) (by rfl) (fun u hu => ?_) ?_; rotate_left; (obtain ⟨hu0, hu1, hu2, hu3⟩ := hu; go_simp; try with_reducible rfl); simp only [Act.put, zA, zB, zC]
      refine Lex3.run_free (v := ?_) (by rfl) (by rfl) (fun u => ?_) ?_; rotate_left; (go_simp; try with_reducible rfl); simp only [Act.put, zA, zB, zC]
      refine Lex3.run_eff (by rfl) (by rfl) (fun n11 K11 hK11 => ?_)
      go_simp
      refine (byteOf_any ca (wA.drewN n11) (by omega)).mono ?_
      rintro e w11 ⟨rfl, hb11⟩
      have hJ := (hI.drewN n11).below hb11
      refine hK11 _ _ hJ ?_
      clear hK11 K11 hI
      have hI := hJ
      clear hJ
      have hb3' := below_then (below_drewN hb3 n11) hb11
      clear hb3 hb11
      have hb3 := hb3'
      clear hb3'
      try simp only [Act.put, zA, zB, zC]
      generalize hB1 : UInt8.ofNat ca = B1
      have HB1 := Lib.hid hB1; clear hB1
      refine run_add (by rfl) (by rfl) rfl rfl rfl (by simp only [List.length_append, List.length_cons, List.length_nil]; omega) ?_; simp only [Act.put, zA, zB, zC]
      refine Lex3.run_free (v := ?_) (by rfl) (by rfl) (fun u => ?_) ?_; rotate_left; (go_simp; try with_reducible rfl); simp only [Act.put, zA, zB, zC]
      refine Lex3.run_load (v := ?_) (by rfl) (by rfl) (fun u hu => ?_) ?_; rotate_left; (obtain ⟨hu0, hu1, hu2, hu3⟩ := hu; go_simp; try with_reducible rfl); simp only [Act.put, zA, zB, zC]
      iterate 3 (refine Lex3.run_free (v := ?_) (by rfl) (by rfl) (fun u => ?_) ?_; rotate_left; (go_simp; try with_reducible rfl); simp only [Act.put, zA, zB, zC])
      refine Lex3.run_load (v := ?_) (by rfl) (by rfl) (fun u hu => ?_) ?_; rotate_left; (obtain ⟨hu0, hu1, hu2, hu3⟩ := hu; go_simp; try with_reducible rfl); simp only [Act.put, zA, zB, zC]
      iterate 2 (refine Lex3.run_free (v := ?_) (by rfl) (by rfl) (fun u => ?_) ?_; rotate_left; (go_simp; try with_reducible rfl); simp only [Act.put, zA, zB, zC])
      refine Lex3.run_eff (by rfl) (by rfl) (fun n12 K12 hK12 => ?_)
      go_simp
      rw [show (16 * (ch : Int) + (cv : Int)) = ((16 * ch + cv : Nat) : Int) by omega]
      refine (byteOf_any (16 * ch + cv) (w11.drewN n12) (by omega)).mono ?_
      rintro e w12 ⟨rfl, hb12⟩
      have hJ := (hI.drewN n12).below hb12
      refine hK12 _ _ hJ ?_
      clear hK12 K12 hI
      have hI := hJ
      clear hJ
      have hb3' := below_then (below_drewN hb3 n12) hb12
      clear hb3 hb12
      have hb3 := hb3'
      clear hb3'
      try simp only [Act.put, zA, zB, zC]
      generalize hB2 : UInt8.ofNat (16 * ch + cv) = B2
      have HB2 := Lib.hid hB2; clear hB2
      refine run_add (by rfl) (by rfl) rfl rfl rfl (by simp only [List.length_append, List.length_cons, List.length_nil]; omega) ?_; simp only [Act.put, zA, zB, zC]
      refine Lex3.run_free (v := ?_) (by rfl) (by rfl) (fun u => ?_) ?_; rotate_left; (go_simp; try with_reducible rfl); simp only [Act.put, zA, zB, zC]
      refine Lex3.run_load (v := ?_) (by rfl) (by rfl) (fun u hu => ?_) ?_; rotate_left; (obtain ⟨hu0, hu1, hu2, hu3⟩ := hu; go_simp; try with_reducible rfl); simp only [Act.put, zA, zB, zC]
      refine Lex3.run_free (v := ?_) (by rfl) (by rfl) (fun u => ?_) ?_; rotate_left; (go_simp; try with_reducible rfl); simp only [Act.put, zA, zB, zC]
      refine Lex3.run_eff (by rfl) (by rfl) (fun n13 K13 hK13 => ?_)
      go_simp
      refine (byteOf_any cq (w12.drewN n13) (by omega)).mono ?_
      rintro e w13 ⟨rfl, hb13⟩
      have hJ := (hI.drewN n13).below hb13
      refine hK13 _ _ hJ ?_
      clear hK13 K13 hI
      have hI := hJ
      clear hJ
      have hb3' := below_then (below_drewN hb3 n13) hb13
      clear hb3 hb13
      have hb3 := hb3'
      clear hb3'
      try simp only [Act.put, zA, zB, zC]
      generalize hB3 : UInt8.ofNat cq = B3
      have HB3 := Lib.hid hB3; clear hB3
      refine run_add (by rfl) (by rfl) rfl rfl rfl (by simp only [List.length_append, List.length_cons, List.length_nil]; omega) ?_; simp only [Act.put, zA, zB, zC]
      refine Lex3.run_free (v := ?_) (by rfl) (by rfl) (fun u => ?_) ?_; rotate_left; (go_simp; try with_reducible rfl); simp only [Act.put, zA, zB, zC]
      refine Lex3.run_nil (fun n3 => ?_)
      have hb3' := below_drewN hb3 n3
      clear hI hb3
      generalize w13.drewN n3 = w14 at hb3' ⊢
      go_wp2_with fail
      go_roundw
      case rel => exact ⟨k + 1, by omega, by go_num, by rw [HNX.out, HB1.out, HB2.out, HB3.out]; simp only [List.append_assoc, List.cons_append, List.nil_append], hb3'⟩
      case measure => simp [intOf]; omega
    · obtain rfl : k = n := by omega
      have hall : l.take k = l := List.take_of_length_le (by rw [HLN.out]; exact Nat.le_refl _)
      rw [hall]
      clear hall
      generalize hss : hd ++ l.flatMap compB = ss
      have HSS := Lib.hid hss; clear hss
      go_wp2_with fail
      go_ret2
      refine ⟨?_, below_then HB.out hbk⟩
      rw [HR.out, ← HSS.out, ← HHD.out, HSH.out, HSW.out, HLN.out]
      simp
end Go.Proofs.YtjfgfoeenajneaaGreatDoor.Sg
namespace Go.Proofs.YtjfgfoeenajneaaGreatDoor.Sg
open Go.RowKit

def partC (p : PartM) : List Value := [.int .i64 p.comp, .int .u8 (p.dc : Nat), .int .u8 (p.ac : Nat)]
def partB (x : Nat × PartM) : List UInt8 := [UInt8.ofNat x.1, UInt8.ofNat (16 * x.2.dc + x.2.ac)]
def scanT (ids : List Nat) (parts : List PartM) : Res (List UInt8) :=
  if parts.length < 1 ∨ 4 < parts.length ∨ ids.length ≠ parts.length then .bad 155
  else if parts.any (fun p => decide (3 < p.dc ∨ 3 < p.ac)) then .bad 155
  else .ok (UInt8.ofNat parts.length :: ((ids.zip parts).flatMap partB ++ [0, 63, 0]))
def SI (b o k : Nat) (b' o' : Nat) (a : Nat) (d c : Nat) (u : World) : Prop := u.cell? ⟨b, o + k, none⟩ = some (.int .u8 (a : Int)) ∧ u.cell? ⟨b', o' + k * 3 + 1, none⟩ = some (.int .u8 (d : Int)) ∧ u.cell? ⟨b', o' + k * 3 + 2, none⟩ = some (.int .u8 (c : Int))
theorem SI.below {b o k b' o' a d c : Nat} {u u' : World} (h : SI b o k b' o' a d c u) (hb : Below u.heap.size u u') : SI b o k b' o' a d c u' := ⟨below_cell hb h.1, below_cell hb h.2.1, below_cell hb h.2.2⟩
theorem SI.drewN {b o k b' o' a d c : Nat} {u : World} (h : SI b o k b' o' a d c u) (n : Nat) : SI b o k b' o' a d c (u.drewN n) := h
theorem zip_next {α β : Type} {l : List α} {m : List β} {k : Nat} {a : α} {b : β} (ha : l[k]? = some a) (hb : m[k]? = some b) : (l.zip m).take (k + 1) = (l.zip m).take k ++ [(a, b)] :=
  take_next (by rw [List.getElem?_zip_eq_some]; exact ⟨ha, hb⟩)
theorem partB_len (l : List (Nat × PartM)) : (l.flatMap partB).length = 2 * l.length := by
  induction l with
  | nil => rfl
  | cons c l ih => rw [List.flatMap_cons, List.length_append, ih]; simp [partB]; omega
set_option maxRecDepth 100000 in
set_option maxHeartbeats 16000000 in
theorem scanText_any (ids : List Nat) (ps : List PartM) (A : Option Addr) (n cap : Nat) (B : Option Addr) (m cap2 : Nat) (w : World) (hs : Sl w A n (u8s ids)) (hr : Rows 3 w B m (ps.flatMap partC)) (hid : ∀ x ∈ ids, x < 256) (hpd : ∀ p ∈ ps, p.dc < 256 ∧ p.ac < 256) (hn : n ≤ 1152921504606846976) (hm : m ≤ 1152921504606846976) :
    Calls Tryz.prog 85 #[.slice A n cap, .slice B m cap2] w (StrP w (scanT ids ps)) := by
  have hil : ids.length = n := by have := hs.1; rw [u8s_length] at this; exact this
  obtain ⟨hpl, hat⟩ := rows_at (by decide) (fun p _ => (rfl : (partC p).length = 3)) hr
  go_enter Tryz.func85, Tryz.ntmps85
  have hbd : (m < 1 ∨ 4 < m ∨ n ≠ m) → scanT ids ps = .bad 155 := fun h => by
    unfold scanT
    rw [if_pos (by rw [hpl, hil]; exact h)]
  have HBD := Lib.hid hbd; clear hbd
  by_cases h1 : m < 1
  · have hr := HBD.out (.inl h1)
    have HR := Lib.hid hr; clear hr hat
    go_wp2_with fail
    go_ret2
    exact ⟨by rw [HR.out]; rfl, Below.refl _ _⟩
  by_cases h2 : 4 < m
  · have hr := HBD.out (.inr (.inl h2))
    have HR := Lib.hid hr; clear hr hat
    go_wp2_with fail
    go_ret2
    exact ⟨by rw [HR.out]; rfl, Below.refl _ _⟩
  by_cases h3 : n = m
  case neg =>
    have hr := HBD.out (.inr (.inr h3))
    have HR := Lib.hid hr; clear hr hat
    have h3b : ((n : Int) != (m : Int)) = true := by simp; omega
    have h3c : ¬ (n : Int) = (m : Int) := by omega
    have h3d : (n != m) = true := by simpa using h3
    go_wp2_with fail
    go_ret2
    exact ⟨by rw [HR.out]; rfl, Below.refl _ _⟩
  subst h3
  have hgd : scanT ids ps = if ps.any (fun p => decide (3 < p.dc ∨ 3 < p.ac)) then .bad 155 else .ok (UInt8.ofNat ps.length :: ((ids.zip ps).flatMap partB ++ [0, 63, 0])) := by
    unfold scanT
    rw [if_neg (by rw [hpl, hil]; omega)]
  have HGD := Lib.hid hgd; clear hgd HBD
  obtain ⟨b, o, rfl, hc1⟩ := hs.2 (by omega)
  obtain ⟨b', o', rfl, hc2⟩ := hat (by omega)
  have HC := Lib.hid (And.intro hc1 hc2); clear hc1 hc2 hat hs hr
  have HL := Lib.hid (And.intro hil hpl); clear hil hpl
  have HV := Lib.hid (And.intro hid hpd); clear hid hpd
  have h1b : ((n : Int) != (n : Int)) = false := by simp
  go_wp2_with fail
  refine (byteOf_any n w (by omega)).mono ?_
  rintro e w1 ⟨rfl, hb1⟩
  generalize hB0 : UInt8.ofNat n = B0
  have HB0 := Lib.hid hB0; clear hB0
  have HB1 := Lib.hid hb1; clear hb1
  go_wp2_with fail
  go_loopw [6, 7] (fun s i wr => ∃ k : Nat, k ≤ n ∧ i = .int .i64 k ∧ s = .string (Bs (B0 :: ((ids.zip ps).take k).flatMap partB)) ∧ (ps.take k).any (fun p => decide (3 < p.dc ∨ 3 < p.ac)) = false ∧ Below w1.heap.size w1 wr) (fun _ i _ => n - (intOf i).toNat)
  case atStart => exact ⟨0, by omega, rfl, by simp, rfl, Below.refl _ _⟩
  case round =>
    obtain ⟨k, hk, rfl, rfl, hbad, hbk⟩ := hrel
    have HBAD := Lib.hid hbad; clear hbad
    by_cases hlt : k < n
    · obtain ⟨x, hx⟩ : ∃ x, ids[k]? = some x := ⟨ids[k]'(by rw [HL.out.1]; exact hlt), List.getElem?_eq_getElem _⟩
      obtain ⟨p, hp⟩ : ∃ p, ps[k]? = some p := ⟨ps[k]'(by rw [HL.out.2]; exact hlt), List.getElem?_eq_getElem _⟩
      have hx8 := HV.out.1 x (List.mem_of_getElem? hx)
      have hp8 := HV.out.2 p (List.mem_of_getElem? hp)
      have hbw := below_then HB1.out hbk
      have d0 : wr.cell? ⟨b, o + k, none⟩ = some (.int .u8 (x : Int)) := below_cell hbw (by
        rw [HC.out.1 k hlt, u8s_get (by rw [HL.out.1]; exact hlt), List.getD_eq_getElem?_getD, hx]
        rfl)
      have d1 : wr.cell? ⟨b', o' + k * 3 + 1, none⟩ = some (.int .u8 (p.dc : Int)) := below_cell hbw (HC.out.2 k p hp 1 _ rfl)
      have d2 : wr.cell? ⟨b', o' + k * 3 + 2, none⟩ = some (.int .u8 (p.ac : Int)) := below_cell hbw (HC.out.2 k p hp 2 _ rfl)
      have hnx : ((ids.zip ps).take (k + 1)).flatMap partB = ((ids.zip ps).take k).flatMap partB ++ [UInt8.ofNat x] ++ [UInt8.ofNat (16 * p.dc + p.ac)] := by
        rw [zip_next hx hp, List.flatMap_append]
        simp [partB]
      have hany : (ps.take (k + 1)).any (fun p => decide (3 < p.dc ∨ 3 < p.ac)) = decide (3 < p.dc ∨ 3 < p.ac) := by
        rw [take_next hp, List.any_append, HBAD.out]
        simp
      have htl := partB_len ((ids.zip ps).take k)
      rw [List.length_take] at htl
      generalize ((ids.zip ps).take k).flatMap partB = t at htl hnx ⊢
      have htl' : t.length ≤ 8 := by omega
      have hfin : (3 < p.dc ∨ 3 < p.ac) → scanT ids ps = .bad 155 := fun h => by
        rw [decide_eq_true h] at hany
        rw [HGD.out, any_of_take hany]
        rfl
      have HFIN := Lib.hid hfin
      have HNX := Lib.hid (And.intro hnx hany); clear hnx hany htl hfin hx hp hbw
      generalize p.dc = dc at d1 hp8 HFIN HNX
      generalize p.ac = ac at d2 hp8 HFIN HNX
      have y0 : 0 ≤ (k : Int) := by omega
      have y1 : (k : Int) < (n : Int) := by omega
      by_cases h5 : 3 < dc
      · have hr := HFIN.out (.inl h5)
        have HR := Lib.hid hr; clear hr
        go_wp2_with fail
        go_ret2
        exact ⟨by rw [HR.out]; rfl, below_then HB1.out hbk⟩
      by_cases h6 : 3 < ac
      · have hr := HFIN.out (.inr h6)
        have HR := Lib.hid hr; clear hr
        go_wp2_with fail
        go_ret2
        exact ⟨by rw [HR.out]; rfl, below_then HB1.out hbk⟩
      have z1 : (x : Int) ≤ 255 := by omega
      have z2 : (dc : Int) ≤ 3 := by omega
      have z3 : (ac : Int) ≤ 3 := by omega
      have u1 : IntKind.i64.wrap (x : Int) = x := IntWalk.i64_in _ (by omega)
      have u2 : IntKind.i64.wrap (dc : Int) = dc := IntWalk.i64_in _ (by omega)
      have u3 : IntKind.i64.wrap (ac : Int) = ac := IntWalk.i64_in _ (by omega)
      have u5 : IntKind.i64.wrap (16 * (dc : Int)) = 16 * (dc : Int) := IntWalk.i64_in _ (by omega)
      have u6 : IntKind.i64.wrap (16 * (dc : Int) + (ac : Int)) = 16 * (dc : Int) + (ac : Int) := IntWalk.i64_in _ (by omega)
      have hI : SI b o k b' o' x dc ac wr := ⟨d0, d1, d2⟩
      have hb3 := hbk
      clear hbk
      go_upto_region 9 with fail
      refine Lex3.wp_region_lex [] (SI b o k b' o' x dc ac) (fun u n h => h) hI (by kernel_rfl) (by kernel_rfl) ?_
      have hI' := hI.drewN 1
      have hb3' := below_drewN hb3 1
      clear hI hb3 d0 d1 d2
      have hI : SI b o k b' o' x dc ac wr.drew := hI'
      have hb3 : Below w1.heap.size w1 wr.drew := hb3'
      clear hI' hb3'
      generalize wr.drew = wA at hI hb3 ⊢
      try simp only [Act.put, zA, zB, zC]
      iterate 4 (refine Lex3.run_free (v := ?_) (by rfl) (by rfl) (fun u => ?_) ?_; rotate_left; (go_simp; try with_reducible rfl); simp only [Act.put, zA, zB, zC])
      refine Lex3.run_load (v := ?_) (by rfl) (by rfl) (fun u hu => ?_) ?_; rotate_left; (obtain ⟨hu0, hu1, hu2⟩ := hu; go_simp; try with_reducible rfl); simp only [Act.put, zA, zB, zC]
      refine Lex3.run_free (v := ?_) (by rfl) (by rfl) (fun u => ?_) ?_; rotate_left; (go_simp; try with_reducible rfl); simp only [Act.put, zA, zB, zC]
      refine Lex3.run_eff (by rfl) (by rfl) (fun n11 K11 hK11 => ?_)
      go_simp
      refine (byteOf_any x (wA.drewN n11) (by omega)).mono ?_
      rintro e w11 ⟨rfl, hb11⟩
      have hJ := (hI.drewN n11).below hb11
      refine hK11 _ _ hJ ?_
      clear hK11 K11 hI
      have hI := hJ
      clear hJ
      have hb3' := below_then (below_drewN hb3 n11) hb11
      clear hb3 hb11
      have hb3 := hb3'
      clear hb3'
      try simp only [Act.put, zA, zB, zC]
      generalize hB1 : UInt8.ofNat x = B1
      have HB2 := Lib.hid hB1; clear hB1
      refine run_add (by rfl) (by rfl) rfl rfl rfl (by simp only [List.length_cons, List.length_nil]; omega) ?_; simp only [Act.put, zA, zB, zC]
      iterate 4 (refine Lex3.run_free (v := ?_) (by rfl) (by rfl) (fun u => ?_) ?_; rotate_left; (go_simp; try with_reducible rfl); simp only [Act.put, zA, zB, zC])
      refine Lex3.run_load (v := ?_) (by rfl) (by rfl) (fun u hu => ?_) ?_; rotate_left; (obtain ⟨hu0, hu1, hu2⟩ := hu; go_simp; try with_reducible rfl); simp only [Act.put, zA, zB, zC]
      iterate 6 (refine Lex3.run_free (v := ?_) (by rfl) (by rfl) (fun u => ?_) ?_; rotate_left; (go_simp; try with_reducible rfl); simp only [Act.put, zA, zB, zC])
      refine Lex3.run_load (v := ?_) (by rfl) (by rfl) (fun u hu => ?_) ?_; rotate_left; (obtain ⟨hu0, hu1, hu2⟩ := hu; go_simp; try with_reducible rfl); simp only [Act.put, zA, zB, zC]
      iterate 2 (refine Lex3.run_free (v := ?_) (by rfl) (by rfl) (fun u => ?_) ?_; rotate_left; (go_simp; try with_reducible rfl); simp only [Act.put, zA, zB, zC])
      refine Lex3.run_eff (by rfl) (by rfl) (fun n12 K12 hK12 => ?_)
      go_simp
      rw [show (16 * (dc : Int) + (ac : Int)) = ((16 * dc + ac : Nat) : Int) by omega]
      refine (byteOf_any (16 * dc + ac) (w11.drewN n12) (by omega)).mono ?_
      rintro e w12 ⟨rfl, hb12⟩
      have hJ := (hI.drewN n12).below hb12
      refine hK12 _ _ hJ ?_
      clear hK12 K12 hI
      have hI := hJ
      clear hJ
      have hb3' := below_then (below_drewN hb3 n12) hb12
      clear hb3 hb12
      have hb3 := hb3'
      clear hb3'
      try simp only [Act.put, zA, zB, zC]
      generalize hB2 : UInt8.ofNat (16 * dc + ac) = B2
      have HB3 := Lib.hid hB2; clear hB2
      refine run_add (by rfl) (by rfl) rfl rfl rfl (by simp only [List.length_append, List.length_cons, List.length_nil]; omega) ?_; simp only [Act.put, zA, zB, zC]
      refine Lex3.run_free (v := ?_) (by rfl) (by rfl) (fun u => ?_) ?_; rotate_left; (go_simp; try with_reducible rfl); simp only [Act.put, zA, zB, zC]
      refine Lex3.run_nil (fun n3 => ?_)
      have hb3' := below_drewN hb3 n3
      clear hI hb3
      generalize w12.drewN n3 = w14 at hb3' ⊢
      go_wp2_with fail
      go_roundw
      case rel => exact ⟨k + 1, by omega, by go_num, by rw [HNX.out.1, HB2.out, HB3.out]; simp only [List.append_assoc, List.cons_append, List.nil_append], by rw [HNX.out.2]; exact decide_eq_false (by omega), hb3'⟩
      case measure => simp [intOf]; omega
    · obtain rfl : k = n := by omega
      have hall : (ids.zip ps).take k = ids.zip ps := List.take_of_length_le (by rw [List.length_zip, HL.out.1, HL.out.2]; omega)
      have hal2 : ps.take k = ps := List.take_of_length_le (by rw [HL.out.2]; exact Nat.le_refl _)
      have hb9 := HBAD.out
      rw [hal2] at hb9
      rw [hall]
      have hres : scanT ids ps = .ok (UInt8.ofNat ps.length :: ((ids.zip ps).flatMap partB ++ [0, 63, 0])) := by rw [HGD.out, hb9]; rfl
      rw [HL.out.2, HB0.out] at hres
      have htl := partB_len (ids.zip ps)
      rw [List.length_zip, HL.out.1, HL.out.2] at htl
      have HR := Lib.hid hres; clear hres hall hal2 hb9
      generalize (ids.zip ps).flatMap partB = t at htl HR ⊢
      have htl' : t.length ≤ 8 := by omega
      clear htl
      have hb3 := below_then HB1.out hbk
      go_wp2_with fail
      refine (byteOf_any 0 wr (by omega)).mono ?_
      rintro e w2 ⟨rfl, hb4⟩
      have hs1 := size_Bs2 (B0 :: t) [0] (by simp only [List.length_cons, List.length_nil]; omega)
      rw [show UInt8.ofNat 0 = 0 from rfl]
      go_wp2_with fail
      rw [Bs_append]
      clear hs1
      generalize hL1 : (B0 :: t ++ [0] : List UInt8) = L1
      have hl1 : L1.length = t.length + 2 := by rw [← hL1]; simp
      have HL1 := Lib.hid hL1; clear hL1
      refine (byteOf_any 63 w2 (by omega)).mono ?_
      rintro e w3 ⟨rfl, hb5⟩
      have hs1 := size_Bs2 L1 [63] (by simp only [List.length_cons, List.length_nil]; omega)
      rw [show UInt8.ofNat 63 = 63 from rfl]
      go_wp2_with fail
      rw [Bs_append]
      clear hs1
      generalize hL2 : (L1 ++ [63] : List UInt8) = L2
      have hl2 : L2.length = t.length + 3 := by rw [← hL2]; simp; omega
      have HL2 := Lib.hid hL2; clear hL2
      refine (byteOf_any 0 w3 (by omega)).mono ?_
      rintro e w4 ⟨rfl, hb6⟩
      have hs1 := size_Bs2 L2 [0] (by simp only [List.length_cons, List.length_nil]; omega)
      rw [show UInt8.ofNat 0 = 0 from rfl]
      go_wp2_with fail
      rw [Bs_append]
      go_ret2
      refine ⟨?_, below_then hb3 (below_then hb4 (below_then hb5 hb6))⟩
      rw [HR.out, ← HL2.out, ← HL1.out]
      simp
end Go.Proofs.YtjfgfoeenajneaaGreatDoor.Sg
