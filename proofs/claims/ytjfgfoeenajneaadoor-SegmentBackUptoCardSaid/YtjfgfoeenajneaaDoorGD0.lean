/- A segment in memory of its own. -/
import Derived.Test.YtjfgfoeenajneaaDoorGC9
namespace Go.Proofs.YtjfgfoeenajneaaDoor.Sg
open Go.RowKit

theorem flat_one {α : Type} {f : α → List Value} {l : List α} (h : ∀ a ∈ l, ∀ u ∈ f a, u.oneCell' = true) : ∀ u ∈ l.flatMap f, u.oneCell' = true := by
  intro u hu
  rw [List.mem_flatMap] at hu
  obtain ⟨a, ha, hu⟩ := hu
  exact h a ha u hu
theorem compC_one (q : CompM) : ∀ u ∈ compC q, u.oneCell' = true := by
  intro u hu
  simp only [compC, List.mem_cons, List.not_mem_nil, or_false] at hu
  rcases hu with rfl | rfl | rfl | rfl <;> rfl
theorem partC_one (q : PartM) : ∀ u ∈ partC q, u.oneCell' = true := by
  intro u hu
  simp only [partC, List.mem_cons, List.not_mem_nil, or_false] at hu
  rcases hu with rfl | rfl | rfl <;> rfl
theorem VL.one {w : World} {base : Nat} {v : Value} {t : List Nat} (h : VL w base v t) : v.oneCell' = true := by
  rcases h with ⟨rfl, _⟩ | ⟨g, cap, cur, z, rfl, _⟩ <;> rfl
theorem huffC_put (p : HuffM × Value) (v : Value) (h : p.1.cnt.length = 16) : (huffC p).toArray.setIfInBounds 18 v = (huffC (p.1, v)).toArray := by
  rw [List.setIfInBounds_toArray]
  unfold huffC specC
  have hl : (u8s p.1.cnt).length = 16 := by rw [u8s_length, h]
  rw [List.set_cons_succ, List.set_cons_succ, List.set_append_right _ _ (by omega), hl]
  rfl
theorem TwI.far {w0 u : World} {s r d : Nat} {ss rs ds : Array Value} (h : TwI w0 u s r d ss rs ds) {p : Addr} (hp : d < p.block) (x : Value) : TwI w0 (u.setCell p x) s r d ss rs ds := by
  have h9 := h.ne
  exact ⟨h.S.far (by omega) x, h.R.far (by omega) x, h.D.far (by omega) x, h.b.setCell (by omega) x, h.ne⟩
/-- what the rounds over the tables of codes leave -/
def TwH (w0 u : World) (s r d base : Nat) (ss rs : Array Value) (m : SegM) (a vc vp vi : Value) (k : Nat) : Prop :=
  ∃ (b : Value) (ps : List (HuffM × Value)), TwI w0 u s r d ss rs (segC m a b vc vp vi) ∧ u.ownsRow base 103 66 a m.quants.length (m.quants.flatMap quantC) ∧ ps.map (·.1) = m.huffs.take k ∧ u.ownsRow base 94 19 b ps.length (ps.flatMap huffC) ∧ ∀ p ∈ ps, VL u base p.2 p.1.vals
set_option maxRecDepth 100000 in
set_option maxHeartbeats 16000000 in
theorem twin_any (m : SegM) (vq vh vc vp vi : Value) (w : World) (hm : SegAt w m vq vh vc vp vi) (hok : SegOk m) (hfew : ∀ h ∈ m.huffs, h.vals.length ≤ 10000000000) :
    Calls Tryd.prog 11 #[.agg (segC m vq vh vc vp vi)] w fun e w' => ∃ a b c p x, e = .returned (.agg (segC m a b c p x)) ∧ ListsL w.heap.size w' m a b c p x ∧ Below w.heap.size w w' := by
  have hsz : (Tryd.prog.info? 30).map (·.size) = some (segC m vq vh vc vp vi).size := size13R
  have hm0 := hm
  obtain ⟨⟨Aq, cq, hvq, hq⟩, ⟨Ah, ch, ps, hvh, hps, hh, hhv⟩, ⟨Ac, cc, hvc, hc, _⟩, ⟨Ap, cp, hvp, hp⟩, ⟨Ai, ci, hvi, hi⟩⟩ := hm
  have hone : (segC m vq vh vc vp vi).all (·.oneCell') = true := one13 _ _ _ _ _ _ (by rw [hvq]; rfl) (by rw [hvh]; rfl) (by rw [hvc]; rfl) (by rw [hvp]; rfl) (by rw [hvi]; rfl)
  have hpl : ps.length = m.huffs.length := by rw [← hps, List.length_map]
  have HZ := Lib.hid (And.intro hsz (And.intro hone (And.intro (show (#[.int .u8 0, .int .i64 0, .int .i64 0, .slice none 0 0, .slice none 0 0, .int .u8 0, .int .i64 0, .int .i64 0, .slice none 0 0, .slice none 0 0, .slice none 0 0, .int .i64 0, .string (ByteArray.mk #[])] : Array Value).size = (segC m vq vh vc vp vi).size from rfl) hpl)))
  have HQ := Lib.hid hq
  have HH := Lib.hid (And.intro hh (And.intro hhv hps))
  have HC := Lib.hid hc
  have HP := Lib.hid hp
  have HI := Lib.hid hi
  have HOK := Lib.hid (And.intro hok hfew)
  have HM := Lib.hid hm0
  clear hsz hone hpl hq hh hhv hps hc hp hi hok hfew hm0
  have fq := HOK.out.1.fewQ
  have fh := HOK.out.1.fewH
  have fc := HOK.out.1.fewC
  have fp := HOK.out.1.fewP
  have fi := HOK.out.1.fewI
  obtain ⟨ss, hss⟩ : ∃ x, x = segC m vq vh vc vp vi := ⟨_, rfl⟩
  have s3 : ss[3]? = some (.slice Aq m.quants.length cq) := by rw [hss, ← hvq]; rfl
  have s4 : ss[4]? = some (.slice Ah m.huffs.length ch) := by rw [hss, ← hvh]; rfl
  have s8 : ss[8]? = some (.slice Ac m.comps.length cc) := by rw [hss, ← hvc]; rfl
  have s9 : ss[9]? = some (.slice Ap m.parts.length cp) := by rw [hss, ← hvp]; rfl
  have s10 : ss[10]? = some (.slice Ai m.ids.length ci) := by rw [hss, ← hvi]; rfl
  have HS3 := Lib.hid (And.intro s3 (And.intro s4 (And.intro s8 (And.intro s9 s10)))); clear s3 s4 s8 s9 s10
  have HV := Lib.hid (And.intro hvq (And.intro hvh (And.intro hvc (And.intro hvp hvi)))); clear hvq hvh hvc hvp hvi
  have HSS := Lib.hid hss
  rw [← hss]
  clear hss
  obtain ⟨iq, iq1, iq2, iq3, iq4⟩ := info_parts infoQ
  obtain ⟨zq, hzq⟩ : ∃ z, z = Value.agg (quantF 0 false [] 0).toArray := ⟨_, rfl⟩
  rw [← hzq] at iq2
  have iq5 : zq.cells.size = 66 := by rw [hzq]; rfl
  have IQ := Lib.hid (And.intro iq1 (And.intro iq2 (And.intro iq3 (And.intro iq4 iq5)))); clear iq1 iq2 iq3 iq4 iq5 hzq
  obtain ⟨ih, ih1, ih2, ih3, ih4⟩ := info_parts infoH
  obtain ⟨zh, hzh⟩ : ∃ z, z = Value.agg (huffF 0 0 [] 0 nilS).toArray := ⟨_, rfl⟩
  rw [← hzh] at ih2
  have ih5 : zh.cells.size = 19 := by rw [hzh]; rfl
  have IH := Lib.hid (And.intro ih1 (And.intro ih2 (And.intro ih3 (And.intro ih4 ih5)))); clear ih1 ih2 ih3 ih4 ih5 hzh
  obtain ⟨ic, ic1, ic2, ic3, ic4⟩ := info_parts infoC
  obtain ⟨zc, hzc⟩ : ∃ z, z = Value.agg #[.int .u8 0, .int .u8 0, .int .u8 0, .int .u8 0] := ⟨_, rfl⟩
  rw [← hzc] at ic2
  have ic5 : zc.cells.size = 4 := by rw [hzc]; rfl
  have IC := Lib.hid (And.intro ic1 (And.intro ic2 (And.intro ic3 (And.intro ic4 ic5)))); clear ic1 ic2 ic3 ic4 ic5 hzc
  obtain ⟨ip, ip1, ip2, ip3, ip4⟩ := info_parts infoP3
  obtain ⟨zp, hzp⟩ : ∃ z, z = Value.agg #[.int .i64 0, .int .u8 0, .int .u8 0] := ⟨_, rfl⟩
  rw [← hzp] at ip2
  have ip5 : zp.cells.size = 3 := by rw [hzp]; rfl
  have IP := Lib.hid (And.intro ip1 (And.intro ip2 (And.intro ip3 (And.intro ip4 ip5)))); clear ip1 ip2 ip3 ip4 ip5 hzp
  go_enter Tryd.func11, Tryd.ntmps11
  go_upto_region 1 with fail
  have hS1 : Blk ((w.alloc (.cells ss 30)).alloc (.cells #[.int .u8 0, .int .i64 0, .int .i64 0, .slice none 0 0, .slice none 0 0, .int .u8 0, .int .i64 0, .int .i64 0, .slice none 0 0, .slice none 0 0, .slice none 0 0, .int .i64 0, .string (ByteArray.mk #[])] 30)) w.heap.size 30 ss := (Blk.new w _ _).alloc _
  have hR1 : Blk ((w.alloc (.cells ss 30)).alloc (.cells #[.int .u8 0, .int .i64 0, .int .i64 0, .slice none 0 0, .slice none 0 0, .int .u8 0, .int .i64 0, .int .i64 0, .slice none 0 0, .slice none 0 0, .slice none 0 0, .int .i64 0, .string (ByteArray.mk #[])] 30)) (w.heap.size + 1) 30 #[.int .u8 0, .int .i64 0, .int .i64 0, .slice none 0 0, .slice none 0 0, .int .u8 0, .int .i64 0, .int .i64 0, .slice none 0 0, .slice none 0 0, .slice none 0 0, .int .i64 0, .string (ByteArray.mk #[])] := by
    have h9 := Blk.new (w.alloc (.cells ss 30)) 30 #[.int .u8 0, .int .i64 0, .int .i64 0, .slice none 0 0, .slice none 0 0, .int .u8 0, .int .i64 0, .int .i64 0, .slice none 0 0, .slice none 0 0, .slice none 0 0, .int .i64 0, .string (ByteArray.mk #[])]
    rwa [show (w.alloc (.cells ss 30)).heap.size = w.heap.size + 1 by simp] at h9
  have hb1 : Below w.heap.size w ((w.alloc (.cells ss 30)).alloc (.cells #[.int .u8 0, .int .i64 0, .int .i64 0, .slice none 0 0, .slice none 0 0, .int .u8 0, .int .i64 0, .int .i64 0, .slice none 0 0, .slice none 0 0, .slice none 0 0, .int .i64 0, .string (ByteArray.mk #[])] 30)) := ((Below.refl _ _).alloc (Nat.le_refl _) _).alloc (by simp) _
  have hz1 : ((w.alloc (.cells ss 30)).alloc (.cells #[.int .u8 0, .int .i64 0, .int .i64 0, .slice none 0 0, .slice none 0 0, .int .u8 0, .int .i64 0, .int .i64 0, .slice none 0 0, .slice none 0 0, .slice none 0 0, .int .i64 0, .string (ByteArray.mk #[])] 30)).heap.size = w.heap.size + 2 := by simp
  generalize ((w.alloc (.cells ss 30)).alloc (.cells #[.int .u8 0, .int .i64 0, .int .i64 0, .slice none 0 0, .slice none 0 0, .int .u8 0, .int .i64 0, .int .i64 0, .slice none 0 0, .slice none 0 0, .slice none 0 0, .int .i64 0, .string (ByteArray.mk #[])] 30)) = w1 at hS1 hR1 hb1 hz1 ⊢
  obtain ⟨s, hs⟩ : ∃ s, w.heap.size = s := ⟨_, rfl⟩
  rw [hs] at hS1 hR1 hz1
  simp only [hs]
  have HSN := Lib.hid hs; clear hs
  have hD1 : Blk (w1.alloc (.cells #[.int .u8 0, .int .i64 0, .int .i64 0, .slice none 0 0, .slice none 0 0, .int .u8 0, .int .i64 0, .int .i64 0, .slice none 0 0, .slice none 0 0, .slice none 0 0, .int .i64 0, .string (ByteArray.mk #[])] 30)) (s + 2) 30 #[.int .u8 0, .int .i64 0, .int .i64 0, .slice none 0 0, .slice none 0 0, .int .u8 0, .int .i64 0, .int .i64 0, .slice none 0 0, .slice none 0 0, .slice none 0 0, .int .i64 0, .string (ByteArray.mk #[])] := by
    have h9 := Blk.new w1 30 #[.int .u8 0, .int .i64 0, .int .i64 0, .slice none 0 0, .slice none 0 0, .int .u8 0, .int .i64 0, .int .i64 0, .slice none 0 0, .slice none 0 0, .slice none 0 0, .int .i64 0, .string (ByteArray.mk #[])]
    rwa [hz1] at h9
  go_upto_region 2 with (first | (refine wpList_load_row rfl _ _ rfl s rfl _ _ _ _ hS1 Tryd.underlying30 rfl (by rw [HSS.out]; exact HZ.out.1) ?_) | (refine wpList_store_row rfl _ _ _ rfl _ _ rfl rfl _ _ hD1 (by rw [HSS.out]; exact HZ.out.1) (by rw [HSS.out]; exact HZ.out.2.2.1) (by rw [HSS.out]; exact HZ.out.2.1) ?_))
  have hI : TwI w ((w1.alloc (.cells #[.int .u8 0, .int .i64 0, .int .i64 0, .slice none 0 0, .slice none 0 0, .int .u8 0, .int .i64 0, .int .i64 0, .slice none 0 0, .slice none 0 0, .slice none 0 0, .int .i64 0, .string (ByteArray.mk #[])] 30)).setRow (s + 2) ss) s (s + 1) (s + 2) ss #[.int .u8 0, .int .i64 0, .int .i64 0, .slice none 0 0, .slice none 0 0, .int .u8 0, .int .i64 0, .int .i64 0, .slice none 0 0, .slice none 0 0, .slice none 0 0, .int .i64 0, .string (ByteArray.mk #[])] (segC m vq vh vc vp vi) := by
    have hbb : Below w1.heap.size w1 ((w1.alloc (.cells #[.int .u8 0, .int .i64 0, .int .i64 0, .slice none 0 0, .slice none 0 0, .int .u8 0, .int .i64 0, .int .i64 0, .slice none 0 0, .slice none 0 0, .slice none 0 0, .int .i64 0, .string (ByteArray.mk #[])] 30)).setRow (s + 2) ss) := grown_below (grown_row (grown_alloc (grown_of_below (Below.refl _ _) none) _) (.inl (by omega)) _)
    refine ⟨hS1.kept hbb, hR1.kept hbb, ?_, below_then hb1 hbb, by rw [HSN.out]; omega⟩
    have h9 : Blk ((w1.alloc (.cells #[.int .u8 0, .int .i64 0, .int .i64 0, .slice none 0 0, .slice none 0 0, .int .u8 0, .int .i64 0, .int .i64 0, .slice none 0 0, .slice none 0 0, .slice none 0 0, .int .i64 0, .string (ByteArray.mk #[])] 30)).setRow (s + 2) ss) (s + 2) 30 ss := hD1.row
    rw [HSS.out] at h9 ⊢
    exact h9
  generalize ((w1.alloc (.cells #[.int .u8 0, .int .i64 0, .int .i64 0, .slice none 0 0, .slice none 0 0, .int .u8 0, .int .i64 0, .int .i64 0, .slice none 0 0, .slice none 0 0, .slice none 0 0, .int .i64 0, .string (ByteArray.mk #[])] 30)).setRow (s + 2) ss) = w2 at hI ⊢
  clear hS1 hR1 hb1 hz1 hD1
  clear w1
  generalize hrr : s + 1 = r at hI ⊢
  generalize hdd : s + 2 = d at hI ⊢
  have HRD := Lib.hid (And.intro hrr hdd); clear hrr hdd
  have c3 : w2.cell? ⟨d, 3, none⟩ = some vq := (hI.cell 3).2.1.trans rfl
  have f3 : w2.frozen? ⟨d, 3, none⟩ = false := (hI.cell 3).2.2
  go_upto_region 3 with fail
  have hI3 : TwI w (w2.setCell ⟨d, 3, none⟩ (.slice none 0 0)) s r d ss #[.int .u8 0, .int .i64 0, .int .i64 0, .slice none 0 0, .slice none 0 0, .int .u8 0, .int .i64 0, .int .i64 0, .slice none 0 0, .slice none 0 0, .slice none 0 0, .int .i64 0, .string (ByteArray.mk #[])] (segC m nilS vh vc vp vi) := hI.setD 3 nilS
  generalize w2.setCell ⟨d, 3, none⟩ (.slice none 0 0) = w3 at hI3 ⊢
  clear hI c3 f3
  clear w2
  obtain ⟨v0, hv0⟩ : ∃ v, v = nilS := ⟨_, rfl⟩
  have hn0 : w3.ownsRow (d + 1) 103 66 v0 0 [] := by rw [hv0]; exact World.ownsRow_nil _ _ _ _
  have ob0 : v0.ownBlock = none := by rw [hv0]; rfl
  rw [← hv0] at hI3
  have HV0 := Lib.hid (And.intro hv0 ob0); clear hv0 ob0
  have c3 : w3.cell? ⟨d, 3, none⟩ = some v0 := (hI3.cell 3).2.1.trans rfl
  have d3 : w3.cell? ⟨s, 3, none⟩ = some (.slice Aq m.quants.length cq) := (hI3.cell 3).1.trans HS3.out.1
  have hbig := hI3.big
  have hqr := HQ.out.below (by have h9 := hI3.b; exact h9)
  have HQR := Lib.hid hqr; clear hqr
  go_upto_region 4 with (at_builtin; refine wpList_append_rows rfl (.tmp 9) (.tmp 11) 22 rfl (d + 1) 103 iq zq 66 130 Tryd.underlying22 IQ.out.1 IQ.out.2.1 IQ.out.2.2.1 IQ.out.2.2.2.1 IQ.out.2.2.2.2 (by decide) v0 0 [] rfl hn0 Aq m.quants.length cq (m.quants.flatMap quantC) rfl HQR.out (flat_one fun q _ => quantC_one q) (by unfold maxLen; omega) (by omega) hbig ?_; intro a w4 hown4 hgr4 hat4; have hone4 := own_one hown4; have hI4 := hI3.grown hgr4 (fun g e => by rw [HV0.out.2] at e; cases e); have e3 : w4.cell? ⟨d, 3, none⟩ = some v0 := (hI4.cell 3).2.1.trans rfl; have f3 : w4.frozen? ⟨d, 3, none⟩ = false := (hI4.cell 3).2.2; obtain ⟨A4, k4, rfl⟩ := own_slice hown4)
  rw [Nat.zero_add, List.nil_append] at hown4
  have hI5 : TwI w (w4.setCell ⟨d, 3, none⟩ (.slice A4 m.quants.length k4)) s r d ss #[.int .u8 0, .int .i64 0, .int .i64 0, .slice none 0 0, .slice none 0 0, .int .u8 0, .int .i64 0, .int .i64 0, .slice none 0 0, .slice none 0 0, .slice none 0 0, .int .i64 0, .string (ByteArray.mk #[])] (segC m (.slice A4 m.quants.length k4) vh vc vp vi) := by
    have h9 := hI4.setD 3 (.slice A4 m.quants.length k4)
    exact h9
  have hown5 := own_setD hown4 (Nat.lt_succ_self d) 3 (.slice A4 m.quants.length k4)
  generalize Value.slice A4 m.quants.length k4 = a at hI5 hown5 ⊢
  generalize w4.setCell ⟨d, 3, none⟩ a = w5 at hI5 hown5 ⊢
  clear hI4 hown4 hgr4 hat4 hone4 e3 c3 f3 hI3 hn0 d3 hbig HQR
  clear w4 w3 A4 k4
  have c4 : w5.cell? ⟨d, 4, none⟩ = some vh := (hI5.cell 4).2.1.trans rfl
  have f4 : w5.frozen? ⟨d, 4, none⟩ = false := (hI5.cell 4).2.2
  go_upto_region 6 with fail
  have hI6 : TwI w (w5.setCell ⟨d, 4, none⟩ (.slice none 0 0)) s r d ss #[.int .u8 0, .int .i64 0, .int .i64 0, .slice none 0 0, .slice none 0 0, .int .u8 0, .int .i64 0, .int .i64 0, .slice none 0 0, .slice none 0 0, .slice none 0 0, .int .i64 0, .string (ByteArray.mk #[])] (segC m a nilS vc vp vi) := hI5.setD 4 nilS
  have hown6 := own_setD hown5 (Nat.lt_succ_self d) 4 (.slice none 0 0)
  generalize w5.setCell ⟨d, 4, none⟩ (.slice none 0 0) = w6 at hI6 hown6 ⊢
  clear hI5 hown5 c4 f4
  clear w5
  obtain ⟨hln, hat⟩ := rows_at (by decide) (fun p hm => huffC_length (HOK.out.1.huffs p.1 (by rw [← HH.out.2.2]; exact List.mem_map_of_mem hm)).len) HH.out.1
  have HAT := Lib.hid hat; clear hat
  have HLN := Lib.hid hln; clear hln
  have hstart : TwH w w6 s r d (d + 1) ss #[.int .u8 0, .int .i64 0, .int .i64 0, .slice none 0 0, .slice none 0 0, .int .u8 0, .int .i64 0, .int .i64 0, .slice none 0 0, .slice none 0 0, .slice none 0 0, .int .i64 0, .string (ByteArray.mk #[])] m a vc vp vi 0 := ⟨nilS, [], hI6, hown6, rfl, World.ownsRow_nil _ _ _ _, fun p hp => by cases hp⟩
  clear hI6 hown6
  go_loopw [4] (fun i u => ∃ k : Nat, k ≤ m.huffs.length ∧ i = .int .i64 k ∧ TwH w u s r d (d + 1) ss #[.int .u8 0, .int .i64 0, .int .i64 0, .slice none 0 0, .slice none 0 0, .int .u8 0, .int .i64 0, .int .i64 0, .slice none 0 0, .slice none 0 0, .slice none 0 0, .int .i64 0, .string (ByteArray.mk #[])] m a vc vp vi k) (fun i _ => m.huffs.length - (intOf i).toNat)
  case atStart => exact ⟨0, by omega, rfl, hstart⟩
  clear hstart
  case round =>
    obtain ⟨k, hk, rfl, b, qs, hI, hqo, hqs, hho, hvl⟩ := hrel
    have d4 : wr.cell? ⟨s, 4, none⟩ = some (.slice Ah m.huffs.length ch) := (hI.cell 4).1.trans HS3.out.2.1
    have HX := Lib.hid (And.intro hqo (And.intro hqs (And.intro hho hvl))); clear hqo hqs hho hvl
    by_cases hlt : k < m.huffs.length
    · obtain ⟨ba, oa, rfl, hat⟩ := HAT.out (by omega)
      obtain ⟨p, hpk⟩ : ∃ p, ps[k]? = some p := ⟨ps[k]'(by rw [HLN.out]; exact hlt), List.getElem?_eq_getElem _⟩
      have hpm := List.mem_of_getElem? hpk
      have hph : p.1 ∈ m.huffs := by rw [← HH.out.2.2]; exact List.mem_map_of_mem hpm
      have hok := HOK.out.1.huffs p.1 hph
      have hfp := HOK.out.2 p.1 hph
      have hsl := ((HH.out.2.1 p hpm).below hI.b).v
      have HRE := Lib.hid (range_below (hat k p hpk) hI.b)
      have hqlen : qs.length = k := by
        have h9 := congrArg List.length HX.out.2.1
        rw [List.length_map, List.length_take] at h9
        omega
      have hnext : m.huffs.take (k + 1) = m.huffs.take k ++ [p.1] := take_next (by rw [← HH.out.2.2, List.getElem?_map, hpk]; rfl)
      have HN := Lib.hid (And.intro hok (And.intro hfp (And.intro hsl (And.intro hqlen (And.intro hnext hpk))))); clear hok hfp hsl hqlen hnext hpk hph hpm hat
      have hz1 : (Tryd.prog.info? 94).map (·.size) = some (huffC p).length := by rw [huffC_length HN.out.1.len]; exact size19
      have hz2 : (#[.int .u8 0, .int .u8 0, .int .u8 0, .int .u8 0, .int .u8 0, .int .u8 0, .int .u8 0, .int .u8 0, .int .u8 0, .int .u8 0, .int .u8 0, .int .u8 0, .int .u8 0, .int .u8 0, .int .u8 0, .int .u8 0, .int .u8 0, .int .u8 0, .slice none 0 0] : Array Value).size = (huffC p).toArray.size := by rw [show (huffC p).toArray.size = 19 from by rw [List.size_toArray, huffC_length HN.out.1.len]]; rfl
      have hpone : p.2.oneCell' = true := by obtain ⟨A9, c9, h9, _⟩ := HN.out.2.2.1; rw [h9]; rfl
      have hz3 : (huffC p).toArray.all (·.oneCell') = true := all_oneCell_toArray (huffC_one p hpone)
      have HZ3 := Lib.hid (And.intro hz1 (And.intro hz2 (And.intro hz3 hpone))); clear hz1 hz2 hz3 hpone
      go_upto_region 9 with (first | (refine wpList_load_mid rfl _ _ rfl ba (oa + k * 19) rfl _ _ HRE.out Tryd.underlying94 rfl HZ3.out.1 ?_) | (refine wpList_store_row rfl _ _ _ rfl _ _ rfl rfl _ _ (Blk.new wr _ _) (by rw [List.size_toArray]; exact HZ3.out.1) HZ3.out.2.1 HZ3.out.2.2.1 ?_))
      have hQ2 : Blk ((wr.alloc (.cells #[.int .u8 0, .int .u8 0, .int .u8 0, .int .u8 0, .int .u8 0, .int .u8 0, .int .u8 0, .int .u8 0, .int .u8 0, .int .u8 0, .int .u8 0, .int .u8 0, .int .u8 0, .int .u8 0, .int .u8 0, .int .u8 0, .int .u8 0, .int .u8 0, .slice none 0 0] 94)).setRow wr.heap.size (huffC p).toArray) wr.heap.size 94 (huffC p).toArray := (Blk.new wr _ _).row
      have hb2 : Below wr.heap.size wr ((wr.alloc (.cells #[.int .u8 0, .int .u8 0, .int .u8 0, .int .u8 0, .int .u8 0, .int .u8 0, .int .u8 0, .int .u8 0, .int .u8 0, .int .u8 0, .int .u8 0, .int .u8 0, .int .u8 0, .int .u8 0, .int .u8 0, .int .u8 0, .int .u8 0, .int .u8 0, .slice none 0 0] 94)).setRow wr.heap.size (huffC p).toArray) := grown_below (grown_row (grown_alloc (grown_of_below (Below.refl _ _) none) _) (.inl (Nat.le_refl _)) _)
      have hsz2 : ((wr.alloc (.cells #[.int .u8 0, .int .u8 0, .int .u8 0, .int .u8 0, .int .u8 0, .int .u8 0, .int .u8 0, .int .u8 0, .int .u8 0, .int .u8 0, .int .u8 0, .int .u8 0, .int .u8 0, .int .u8 0, .int .u8 0, .int .u8 0, .int .u8 0, .int .u8 0, .slice none 0 0] 94)).setRow wr.heap.size (huffC p).toArray).heap.size = wr.heap.size + 1 := by simp [World.setRow]
      generalize ((wr.alloc (.cells #[.int .u8 0, .int .u8 0, .int .u8 0, .int .u8 0, .int .u8 0, .int .u8 0, .int .u8 0, .int .u8 0, .int .u8 0, .int .u8 0, .int .u8 0, .int .u8 0, .int .u8 0, .int .u8 0, .int .u8 0, .int .u8 0, .int .u8 0, .int .u8 0, .slice none 0 0] 94)).setRow wr.heap.size (huffC p).toArray) = w2 at hQ2 hb2 hsz2 ⊢
      have hI2 := hI.kept hb2
      have hX2 : w2.ownsRow (d + 1) 103 66 a m.quants.length (m.quants.flatMap quantC) ∧ w2.ownsRow (d + 1) 94 19 b qs.length (qs.flatMap huffC) ∧ ∀ p ∈ qs, VL w2 (d + 1) p.2 p.1.vals := ⟨own_kept HX.out.1 hb2, own_kept HX.out.2.2.1 hb2, fun x hx => (HX.out.2.2.2 x hx).kept hb2⟩
      have hlb : (∀ g, a.ownBlock = some g → g < wr.heap.size) ∧ (∀ g, b.ownBlock = some g → g < wr.heap.size) ∧ ∀ x ∈ qs, ∀ g, x.2.ownBlock = some g → g < wr.heap.size := ⟨fun g hg => (HX.out.1.lt g hg).2, fun g hg => (HX.out.2.2.1.lt g hg).2, fun x hx g hg => ((HX.out.2.2.2 x hx).lt g hg).2⟩
      have hsl2 := HN.out.2.2.1.below hb2
      have hbig := hI.big
      generalize wr.heap.size = q at hQ2 hsz2 hbig hlb ⊢
      have HY := Lib.hid (And.intro hX2 (And.intro hlb hsl2)); clear hX2 hlb hsl2 hI hb2 d4 HRE
      have HQS := Lib.hid HX.out.2.1; clear HX
      have c18 : w2.cell? ⟨q, 18, none⟩ = some p.2 := by rw [hQ2.cell, huffC_val HN.out.1.len]
      have HSL := Lib.hid HY.out.2.2
      generalize hpv : p.2 = pv at c18 HSL ⊢
      have HPV := Lib.hid hpv; clear hpv
      go_wp2_with fail
      refine (bytes_any p.1.vals _ w2 HSL.out HN.out.2.1).mono ?_
      rintro e w3 ⟨v', rfl, hown3, hb3⟩
      have hI3 := hI2.kept hb3
      have hQ3 := hQ2.kept hb3
      have hX3 : w3.ownsRow (d + 1) 103 66 a m.quants.length (m.quants.flatMap quantC) ∧ w3.ownsRow (d + 1) 94 19 b qs.length (qs.flatMap huffC) ∧ (∀ p ∈ qs, VL w3 (d + 1) p.2 p.1.vals) ∧ VL w3 (q + 1) v' p.1.vals := ⟨own_kept HY.out.1.1 hb3, own_kept HY.out.1.2.1 hb3, fun x hx => (HY.out.1.2.2 x hx).kept hb3, VL.of_own (by rw [← hsz2]; exact hown3)⟩
      have hsz3 := hb3.size
      clear hb3 hown3 hQ2 hI2 c18 HSL
      have c18 : w3.cell? ⟨q, 18, none⟩ = some pv := by rw [hQ3.cell, huffC_val HN.out.1.len, HPV.out]
      have f18 : w3.frozen? ⟨q, 18, none⟩ = false := hQ3.frozen _
      have hone' := hX3.2.2.2.one
      have hsl' := hX3.2.2.2.sl
      obtain ⟨A9, c9, rfl, _⟩ := hsl'
      have HX3 := Lib.hid hX3; clear hX3
      go_upto_region 10 with fail
      generalize hvn : Value.slice A9 p.1.vals.length c9 = vn at HX3 hone' ⊢
      have hQ4 : Blk (w3.setCell ⟨q, 18, none⟩ vn) q 94 (huffC (p.1, vn)).toArray := by
        have h9 := hQ3.set 18 vn
        rw [huffC_put p vn HN.out.1.len] at h9
        exact h9
      have hI4 := hI3.far (p := ⟨q, 18, none⟩) (show d < q by omega) vn
      have hX4 : (w3.setCell ⟨q, 18, none⟩ vn).ownsRow (d + 1) 103 66 a m.quants.length (m.quants.flatMap quantC) ∧ (w3.setCell ⟨q, 18, none⟩ vn).ownsRow (d + 1) 94 19 b qs.length (qs.flatMap huffC) ∧ ∀ x ∈ qs ++ [(p.1, vn)], VL (w3.setCell ⟨q, 18, none⟩ vn) (d + 1) x.2 x.1.vals := by
        refine ⟨own_keep HX3.out.1 fun g hg => Below.heap_setCell _ _ _ _ ?_, own_keep HX3.out.2.1 fun g hg => Below.heap_setCell _ _ _ _ ?_, fun x hx => ?_⟩
        · have := HY.out.2.1.1 g hg; show g ≠ q; omega
        · have := HY.out.2.1.2.1 g hg; show g ≠ q; omega
        · rcases List.mem_append.1 hx with h9 | h9
          · exact (HX3.out.2.2.1 x h9).keep fun g hg => Below.heap_setCell _ _ _ _ (by have := HY.out.2.1.2.2 x h9 g hg; show g ≠ q; omega)
          · obtain rfl : x = (p.1, vn) := by simpa using h9
            exact (HX3.out.2.2.2.mono (show d + 1 ≤ q + 1 by omega)).keep fun g hg => Below.heap_setCell _ _ _ _ (by have := (HX3.out.2.2.2.lt g hg).1; show g ≠ q; omega)
      have HX4 := Lib.hid hX4; clear hX4
      generalize w3.setCell ⟨q, 18, none⟩ vn = w4 at hQ4 hI4 HX4 ⊢
      have hz4 : (huffC (p.1, vn)).length = 19 := huffC_length HN.out.1.len
      have ho4 : ∀ u ∈ huffC (p.1, vn), u.oneCell' = true := huffC_one (p.1, vn) hone'
      clear hQ3 hI3 hsz3 hsz2 c18 f18 HX3 HY hone'
      have hI5 := hI4.kept (show Below w4.heap.size w4 (w4.alloc (.cells (huffC (p.1, vn)).toArray 94)) from (Below.refl _ _).alloc (Nat.le_refl _) _)
      have hn5 := Blk.new w4 94 (huffC (p.1, vn)).toArray
      have hX5 : (w4.alloc (.cells (huffC (p.1, vn)).toArray 94)).ownsRow (d + 1) 103 66 a m.quants.length (m.quants.flatMap quantC) ∧ (w4.alloc (.cells (huffC (p.1, vn)).toArray 94)).ownsRow (d + 1) 94 19 b k (qs.flatMap huffC) ∧ ∀ x ∈ qs ++ [(p.1, vn)], VL (w4.alloc (.cells (huffC (p.1, vn)).toArray 94)) (d + 1) x.2 x.1.vals := by
        have h9 : Below w4.heap.size w4 (w4.alloc (.cells (huffC (p.1, vn)).toArray 94)) := (Below.refl _ _).alloc (Nat.le_refl _) _
        have h8 := own_kept HX4.out.2.1 h9
        rw [HN.out.2.2.2.1] at h8
        exact ⟨own_kept HX4.out.1 h9, h8, fun x hx => (HX4.out.2.2 x hx).kept h9⟩
      have HX5 := Lib.hid hX5; clear hX5
      have hr5 : Rows 19 (w4.alloc (.cells (huffC (p.1, vn)).toArray 94)) (some ⟨w4.heap.size, 0, none⟩) 1 (huffC (p.1, vn)) := ⟨by rw [hz4], fun _ => ⟨_, 0, rfl, fun j hj => by rw [hn5.cell, Nat.zero_add]; simp⟩⟩
      have HR5 := Lib.hid hr5; clear hr5
      have c4 : w4.cell? ⟨d, 4, none⟩ = some b := (hI4.cell 4).2.1.trans rfl
      have hbig5 := hI5.big
      have hk5 : k ≤ 16777216 := by omega
      have HQ4 := Lib.hid hQ4; clear hQ4
      have HZ5 := Lib.hid (And.intro hz4 ho4); clear hz4 ho4
      have HI5 := Lib.hid hI5; clear hI5
      clear hn5
      go_upto_region 7 with (first | (refine wpList_load_row rfl _ _ rfl q rfl _ _ _ _ HQ4.out Tryd.underlying94 rfl (by rw [List.size_toArray, HZ5.out.1]; exact size19) ?_) | (refine wpList_buildOne rfl 23 94 _ rfl _ rfl ih zh 19 Tryd.underlying23 IH.out.1 IH.out.2.1 IH.out.2.2.1 (by rw [List.size_toArray]; exact HZ5.out.1) (by decide) (by decide) ?_) | (at_builtin; refine wpList_append_rows rfl (.tmp 34) (.tmp 36) 23 rfl (d + 1) 94 ih zh 19 48 Tryd.underlying23 IH.out.1 IH.out.2.1 IH.out.2.2.1 IH.out.2.2.2.1 IH.out.2.2.2.2 (by decide) b k (qs.flatMap huffC) rfl HX5.out.2.1 (some ⟨w4.heap.size, 0, none⟩) 1 1 (huffC (p.1, vn)) rfl HR5.out HZ5.out.2 (by unfold maxLen; omega) (by omega) hbig5 ?_; intro b' w6 hown6 hgr6 hat6; have hI6 := HI5.out.grown hgr6 (fun g e => by have := (HX5.out.2.1.lt g e).1; omega); have e4 : w6.cell? ⟨d, 4, none⟩ = some b := (hI6.cell 4).2.1.trans rfl; have f4 : w6.frozen? ⟨d, 4, none⟩ = false := (hI6.cell 4).2.2; obtain ⟨A6, k6, rfl⟩ := own_slice hown6))
      have hX6 : w6.ownsRow (d + 1) 103 66 a m.quants.length (m.quants.flatMap quantC) ∧ ∀ x ∈ qs ++ [(p.1, vn)], VL w6 (d + 1) x.2 x.1.vals := ⟨own_beside HX5.out.1 HX5.out.2.1 (by decide) hgr6, fun x hx => (HX5.out.2.2 x hx).beside HX5.out.2.1 (by decide) hgr6⟩
      have hfin : TwH w (w6.setCell ⟨d, 4, none⟩ (.slice A6 (k + 1) k6)) s r d (d + 1) ss #[.int .u8 0, .int .i64 0, .int .i64 0, .slice none 0 0, .slice none 0 0, .int .u8 0, .int .i64 0, .int .i64 0, .slice none 0 0, .slice none 0 0, .slice none 0 0, .int .i64 0, .string (ByteArray.mk #[])] m a vc vp vi (k + 1) := by
        refine ⟨.slice A6 (k + 1) k6, qs ++ [(p.1, vn)], hI6.setD 4 _, own_setD hX6.1 (Nat.lt_succ_self d) 4 _, ?_, ?_, fun x hx => (hX6.2 x hx).setD (Nat.lt_succ_self d) 4 _⟩
        · rw [HN.out.2.2.2.2.1, List.map_append, HQS.out]
          rfl
        · have h9 := own_setD hown6 (Nat.lt_succ_self d) 4 (.slice A6 (k + 1) k6)
          rw [List.length_append, List.flatMap_append, HN.out.2.2.2.1, show [(p.1, vn)].flatMap huffC = huffC (p.1, vn) by simp]
          exact h9
      generalize w6.setCell ⟨d, 4, none⟩ (.slice A6 (k + 1) k6) = w7 at hfin ⊢
      clear hX6 hI6 hown6 hgr6 hat6 e4 c4 f4 HI5 HX5 HR5 hbig5 HX4 hI4 HQ4
      have HF := Lib.hid hfin; clear hfin
      go_wp2_with fail
      go_roundw
      case rel => exact ⟨k + 1, by omega, by go_num, HF.out⟩
      case measure => simp [intOf]; omega
    · obtain rfl : k = m.huffs.length := by omega
      have hqs9 : qs.map (·.1) = m.huffs := by rw [HX.out.2.1, List.take_length]
      have HQS := Lib.hid hqs9; clear hqs9
      have hX0 : wr.ownsRow (d + 1) 103 66 a m.quants.length (m.quants.flatMap quantC) ∧ wr.ownsRow (d + 1) 94 19 b qs.length (qs.flatMap huffC) ∧ ∀ x ∈ qs, VL wr (d + 1) x.2 x.1.vals := ⟨HX.out.1, HX.out.2.2.1, HX.out.2.2.2⟩
      have HX0 := Lib.hid hX0; clear hX0 HX hlt hk
      have c8 : wr.cell? ⟨d, 8, none⟩ = some vc := (hI.cell 8).2.1.trans rfl
      have f8 : wr.frozen? ⟨d, 8, none⟩ = false := (hI.cell 8).2.2
      go_upto_region 12 with fail
      have hI1 : TwI w (wr.setCell ⟨d, 8, none⟩ (.slice none 0 0)) s r d ss #[.int .u8 0, .int .i64 0, .int .i64 0, .slice none 0 0, .slice none 0 0, .int .u8 0, .int .i64 0, .int .i64 0, .slice none 0 0, .slice none 0 0, .slice none 0 0, .int .i64 0, .string (ByteArray.mk #[])] (segC m a b v0 vp vi) := by rw [HV0.out.1]; exact hI.setD 8 nilS
      have hX1 : (wr.setCell ⟨d, 8, none⟩ (.slice none 0 0)).ownsRow (d + 1) 103 66 a m.quants.length (m.quants.flatMap quantC) ∧ (wr.setCell ⟨d, 8, none⟩ (.slice none 0 0)).ownsRow (d + 1) 94 19 b qs.length (qs.flatMap huffC) ∧ ∀ x ∈ qs, VL (wr.setCell ⟨d, 8, none⟩ (.slice none 0 0)) (d + 1) x.2 x.1.vals := ⟨own_setD HX0.out.1 (Nat.lt_succ_self d) 8 _, own_setD HX0.out.2.1 (Nat.lt_succ_self d) 8 _, fun x hx => (HX0.out.2.2 x hx).setD (Nat.lt_succ_self d) 8 _⟩
      have HX1 := Lib.hid hX1; clear hX1 HX0
      generalize wr.setCell ⟨d, 8, none⟩ (.slice none 0 0) = w3 at hI1 HX1 ⊢
      clear hI c8 f8 d4
      have hn0 : w3.ownsRow (d + 1) 121 4 v0 0 [] := by rw [HV0.out.1]; exact World.ownsRow_nil _ _ _ _
      have c8 : w3.cell? ⟨d, 8, none⟩ = some v0 := (hI1.cell 8).2.1.trans rfl
      have d8 : w3.cell? ⟨s, 8, none⟩ = some (.slice Ac m.comps.length cc) := (hI1.cell 8).1.trans HS3.out.2.2.1
      have hbig := hI1.big
      have HCR := Lib.hid (HC.out.below hI1.b)
      go_upto_region 13 with (at_builtin; refine wpList_append_rows rfl (.tmp 43) (.tmp 46) 24 rfl (d + 1) 121 ic zc 4 4 Tryd.underlying24 IC.out.1 IC.out.2.1 IC.out.2.2.1 IC.out.2.2.2.1 IC.out.2.2.2.2 (by decide) v0 0 [] rfl hn0 Ac m.comps.length cc (m.comps.flatMap compC) rfl HCR.out (flat_one fun q _ => compC_one q) (by unfold maxLen; omega) (by omega) hbig ?_; intro c w4 hown4 hgr4 hat4; have hI4 := hI1.grown hgr4 (fun g e => by rw [HV0.out.2] at e; cases e); have e8 : w4.cell? ⟨d, 8, none⟩ = some v0 := (hI4.cell 8).2.1.trans rfl; have f8 : w4.frozen? ⟨d, 8, none⟩ = false := (hI4.cell 8).2.2; obtain ⟨A4, k4, rfl⟩ := own_slice hown4)
      rw [Nat.zero_add, List.nil_append] at hown4
      rw [HV0.out.2] at hgr4
      have hbx := grown_below hgr4
      have hI5 : TwI w (w4.setCell ⟨d, 8, none⟩ (.slice A4 m.comps.length k4)) s r d ss #[.int .u8 0, .int .i64 0, .int .i64 0, .slice none 0 0, .slice none 0 0, .int .u8 0, .int .i64 0, .int .i64 0, .slice none 0 0, .slice none 0 0, .slice none 0 0, .int .i64 0, .string (ByteArray.mk #[])] (segC m a b (.slice A4 m.comps.length k4) vp vi) := hI4.setD 8 _
      have hX5 : (w4.setCell ⟨d, 8, none⟩ (.slice A4 m.comps.length k4)).ownsRow (d + 1) 103 66 a m.quants.length (m.quants.flatMap quantC) ∧ (w4.setCell ⟨d, 8, none⟩ (.slice A4 m.comps.length k4)).ownsRow (d + 1) 94 19 b qs.length (qs.flatMap huffC) ∧ (∀ x ∈ qs, VL (w4.setCell ⟨d, 8, none⟩ (.slice A4 m.comps.length k4)) (d + 1) x.2 x.1.vals) ∧ (w4.setCell ⟨d, 8, none⟩ (.slice A4 m.comps.length k4)).ownsRow (d + 1) 121 4 (.slice A4 m.comps.length k4) m.comps.length (m.comps.flatMap compC) := ⟨own_setD (own_kept HX1.out.1 hbx) (Nat.lt_succ_self d) 8 _, own_setD (own_kept HX1.out.2.1 hbx) (Nat.lt_succ_self d) 8 _, fun x hx => ((HX1.out.2.2 x hx).kept hbx).setD (Nat.lt_succ_self d) 8 _, own_setD hown4 (Nat.lt_succ_self d) 8 _⟩
      have HX5 := Lib.hid hX5; clear hX5 HX1
      generalize Value.slice A4 m.comps.length k4 = c at hI5 HX5 ⊢
      generalize w4.setCell ⟨d, 8, none⟩ c = w5 at hI5 HX5 ⊢
      clear hI4 hown4 hgr4 hat4 e8 f8 hI1 hn0 d8 c8 hbig HCR hbx
      have c9 : w5.cell? ⟨d, 9, none⟩ = some vp := (hI5.cell 9).2.1.trans rfl
      have f9 : w5.frozen? ⟨d, 9, none⟩ = false := (hI5.cell 9).2.2
      go_upto_region 14 with fail
      have hI6 : TwI w (w5.setCell ⟨d, 9, none⟩ (.slice none 0 0)) s r d ss #[.int .u8 0, .int .i64 0, .int .i64 0, .slice none 0 0, .slice none 0 0, .int .u8 0, .int .i64 0, .int .i64 0, .slice none 0 0, .slice none 0 0, .slice none 0 0, .int .i64 0, .string (ByteArray.mk #[])] (segC m a b c v0 vi) := by rw [HV0.out.1]; exact hI5.setD 9 nilS
      have hX6 : (w5.setCell ⟨d, 9, none⟩ (.slice none 0 0)).ownsRow (d + 1) 103 66 a m.quants.length (m.quants.flatMap quantC) ∧ (w5.setCell ⟨d, 9, none⟩ (.slice none 0 0)).ownsRow (d + 1) 94 19 b qs.length (qs.flatMap huffC) ∧ (∀ x ∈ qs, VL (w5.setCell ⟨d, 9, none⟩ (.slice none 0 0)) (d + 1) x.2 x.1.vals) ∧ (w5.setCell ⟨d, 9, none⟩ (.slice none 0 0)).ownsRow (d + 1) 121 4 c m.comps.length (m.comps.flatMap compC) := ⟨own_setD HX5.out.1 (Nat.lt_succ_self d) 9 _, own_setD HX5.out.2.1 (Nat.lt_succ_self d) 9 _, fun x hx => (HX5.out.2.2.1 x hx).setD (Nat.lt_succ_self d) 9 _, own_setD HX5.out.2.2.2 (Nat.lt_succ_self d) 9 _⟩
      have HX6 := Lib.hid hX6; clear hX6 HX5
      generalize w5.setCell ⟨d, 9, none⟩ (.slice none 0 0) = w6 at hI6 HX6 ⊢
      clear hI5 c9 f9
      have hn0 : w6.ownsRow (d + 1) 69 3 v0 0 [] := by rw [HV0.out.1]; exact World.ownsRow_nil _ _ _ _
      have c9 : w6.cell? ⟨d, 9, none⟩ = some v0 := (hI6.cell 9).2.1.trans rfl
      have d9 : w6.cell? ⟨s, 9, none⟩ = some (.slice Ap m.parts.length cp) := (hI6.cell 9).1.trans HS3.out.2.2.2.1
      have hbig := hI6.big
      have HPR := Lib.hid (HP.out.below hI6.b)
      go_upto_region 15 with (at_builtin; refine wpList_append_rows rfl (.tmp 52) (.tmp 54) 27 rfl (d + 1) 69 ip zp 3 16 Tryd.underlying27 IP.out.1 IP.out.2.1 IP.out.2.2.1 IP.out.2.2.2.1 IP.out.2.2.2.2 (by decide) v0 0 [] rfl hn0 Ap m.parts.length cp (m.parts.flatMap partC) rfl HPR.out (flat_one fun q _ => partC_one q) (by unfold maxLen; omega) (by omega) hbig ?_; intro x9 w7 hown7 hgr7 hat7; have hI7 := hI6.grown hgr7 (fun g e => by rw [HV0.out.2] at e; cases e); have e9 : w7.cell? ⟨d, 9, none⟩ = some v0 := (hI7.cell 9).2.1.trans rfl; have f9 : w7.frozen? ⟨d, 9, none⟩ = false := (hI7.cell 9).2.2; obtain ⟨A7, k7, rfl⟩ := own_slice hown7)
      rw [Nat.zero_add, List.nil_append] at hown7
      rw [HV0.out.2] at hgr7
      have hbx := grown_below hgr7
      have hI8 : TwI w (w7.setCell ⟨d, 9, none⟩ (.slice A7 m.parts.length k7)) s r d ss #[.int .u8 0, .int .i64 0, .int .i64 0, .slice none 0 0, .slice none 0 0, .int .u8 0, .int .i64 0, .int .i64 0, .slice none 0 0, .slice none 0 0, .slice none 0 0, .int .i64 0, .string (ByteArray.mk #[])] (segC m a b c (.slice A7 m.parts.length k7) vi) := hI7.setD 9 _
      have hX8 : (w7.setCell ⟨d, 9, none⟩ (.slice A7 m.parts.length k7)).ownsRow (d + 1) 103 66 a m.quants.length (m.quants.flatMap quantC) ∧ (w7.setCell ⟨d, 9, none⟩ (.slice A7 m.parts.length k7)).ownsRow (d + 1) 94 19 b qs.length (qs.flatMap huffC) ∧ (∀ x ∈ qs, VL (w7.setCell ⟨d, 9, none⟩ (.slice A7 m.parts.length k7)) (d + 1) x.2 x.1.vals) ∧ (w7.setCell ⟨d, 9, none⟩ (.slice A7 m.parts.length k7)).ownsRow (d + 1) 121 4 c m.comps.length (m.comps.flatMap compC) ∧ (w7.setCell ⟨d, 9, none⟩ (.slice A7 m.parts.length k7)).ownsRow (d + 1) 69 3 (.slice A7 m.parts.length k7) m.parts.length (m.parts.flatMap partC) := ⟨own_setD (own_kept HX6.out.1 hbx) (Nat.lt_succ_self d) 9 _, own_setD (own_kept HX6.out.2.1 hbx) (Nat.lt_succ_self d) 9 _, fun x hx => ((HX6.out.2.2.1 x hx).kept hbx).setD (Nat.lt_succ_self d) 9 _, own_setD (own_kept HX6.out.2.2.2 hbx) (Nat.lt_succ_self d) 9 _, own_setD hown7 (Nat.lt_succ_self d) 9 _⟩
      have HX8 := Lib.hid hX8; clear hX8 HX6
      generalize Value.slice A7 m.parts.length k7 = pp at hI8 HX8 ⊢
      generalize w7.setCell ⟨d, 9, none⟩ pp = w8 at hI8 HX8 ⊢
      clear hI7 hown7 hgr7 hat7 e9 f9 hI6 hn0 d9 c9 hbig HPR hbx
      have d10 : w8.cell? ⟨s, 10, none⟩ = some vi := (hI8.cell 10).1.trans (by rw [HSS.out]; rfl)
      have hsi : SlV w8 vi m.ids := ⟨Ai, ci, HV.out.2.2.2.2, HI.out.below hI8.b⟩
      have HSI := Lib.hid hsi; clear hsi
      go_wp2_with fail
      refine (bytes_any m.ids _ w8 HSI.out (by omega)).mono ?_
      rintro e w9 ⟨v', rfl, hown9, hb9⟩
      have hI9 := hI8.kept hb9
      have hX9 : w9.ownsRow (d + 1) 103 66 a m.quants.length (m.quants.flatMap quantC) ∧ w9.ownsRow (d + 1) 94 19 b qs.length (qs.flatMap huffC) ∧ (∀ x ∈ qs, VL w9 (d + 1) x.2 x.1.vals) ∧ w9.ownsRow (d + 1) 121 4 c m.comps.length (m.comps.flatMap compC) ∧ w9.ownsRow (d + 1) 69 3 pp m.parts.length (m.parts.flatMap partC) ∧ w9.ownsRow (d + 1) 5 1 v' m.ids.length (u8s m.ids) := ⟨own_kept HX8.out.1 hb9, own_kept HX8.out.2.1 hb9, fun x hx => (HX8.out.2.2.1 x hx).kept hb9, own_kept HX8.out.2.2.2.1 hb9, own_kept HX8.out.2.2.2.2 hb9, own_mono hown9 hI8.big⟩
      have HX9 := Lib.hid hX9; clear hX9 HX8 hI8 hb9 d10 HSI hown9
      have c10 : w9.cell? ⟨d, 10, none⟩ = some vi := (hI9.cell 10).2.1.trans rfl
      have f10 : w9.frozen? ⟨d, 10, none⟩ = false := (hI9.cell 10).2.2
      obtain ⟨A9, k9, rfl⟩ := own_slice HX9.out.2.2.2.2.2
      go_upto_region 16 with fail
      have hI10 : TwI w (w9.setCell ⟨d, 10, none⟩ (.slice A9 m.ids.length k9)) s r d ss #[.int .u8 0, .int .i64 0, .int .i64 0, .slice none 0 0, .slice none 0 0, .int .u8 0, .int .i64 0, .int .i64 0, .slice none 0 0, .slice none 0 0, .slice none 0 0, .int .i64 0, .string (ByteArray.mk #[])] (segC m a b c pp (.slice A9 m.ids.length k9)) := hI9.setD 10 _
      have hL : ListsL (d + 1) (w9.setCell ⟨d, 10, none⟩ (.slice A9 m.ids.length k9)) m a b c pp (.slice A9 m.ids.length k9) := ⟨own_setD HX9.out.1 (Nat.lt_succ_self d) 10 _, ⟨qs, HQS.out, own_setD HX9.out.2.1 (Nat.lt_succ_self d) 10 _, fun x hx => (HX9.out.2.2.1 x hx).setD (Nat.lt_succ_self d) 10 _⟩, own_setD HX9.out.2.2.2.1 (Nat.lt_succ_self d) 10 _, own_setD HX9.out.2.2.2.2.1 (Nat.lt_succ_self d) 10 _, own_setD HX9.out.2.2.2.2.2 (Nat.lt_succ_self d) 10 _⟩
      clear HX9 hI9 c10 f10
      generalize Value.slice A9 m.ids.length k9 = x at hI10 hL ⊢
      generalize w9.setCell ⟨d, 10, none⟩ x = w10 at hI10 hL ⊢
      have hone : (segC m a b c pp x).all (·.oneCell') = true := one13 _ _ _ _ _ _ (own_one hL.q) (by obtain ⟨_, _, h9, _⟩ := hL.h; exact own_one h9) (own_one hL.c) (own_one hL.p) (own_one hL.i)
      have HL := Lib.hid hL; clear hL
      have HO := Lib.hid hone; clear hone
      have hD10 := hI10.D
      have hR10 := hI10.R
      go_wp2_with (first | (refine wpList_load_row rfl _ _ rfl d rfl _ _ _ _ hD10 Tryd.underlying30 rfl size13R ?_) | (refine wpList_store_row rfl _ _ _ rfl _ _ rfl rfl _ _ hR10 size13R rfl HO.out ?_))
      have hbz : TwI w w10 s r d ss #[.int .u8 0, .int .i64 0, .int .i64 0, .slice none 0 0, .slice none 0 0, .int .u8 0, .int .i64 0, .int .i64 0, .slice none 0 0, .slice none 0 0, .slice none 0 0, .int .i64 0, .string (ByteArray.mk #[])] (segC m a b c pp x) := hI10
      have hbl : Below w.heap.size w (w10.setRow r (segC m a b c pp x)) := grown_below (grown_row (grown_of_below hI10.b none) (.inl (by have := hI10.ne; omega)) _)
      have hlf := HL.out.keep (u' := w10.setRow r (segC m a b c pp x)) (fun g hg _ => by
        have := hI10.ne
        exact setRow_other w10 r g _ (by omega))
      refine bodyPost_ret (results_cell_row rfl _ _ r 30 (segC m a b c pp x) (0, 0) _ rfl hR10.row Tryd.underlying30 rfl size13R) rfl ?_
      exact ⟨a, b, c, pp, x, rfl, hlf.mono (by have := hI10.ne; omega), hbl⟩
end Go.Proofs.YtjfgfoeenajneaaDoor.Sg
