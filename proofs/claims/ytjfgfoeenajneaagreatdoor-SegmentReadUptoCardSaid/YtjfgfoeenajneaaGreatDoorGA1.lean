/- Segments in plain lists: what the bytes of a segment say, and what a segment is written as. Segments in plain lists: what is written is read again, and what is read is written again. Segments in plain lists: what is written is read again. Segments in plain lists: there and back; cut off; what is read is written as it was. -/
namespace Go.Proofs.YtjfgfoeenajneaaGreatDoor.Sg

structure QuantM where
  id : Nat
  wide : Bool
  tab : List Nat
structure HuffM where
  cls : Nat
  id : Nat
  cnt : List Nat
  vals : List Nat
structure CompM where
  id : Nat
  h : Nat
  v : Nat
  q : Nat
structure PartM where
  comp : Int
  dc : Nat
  ac : Nat
structure SegM where
  code : Nat
  at_ : Int
  end_ : Int
  quants : List QuantM
  huffs : List HuffM
  kind : Nat
  width : Int
  height : Int
  comps : List CompM
  parts : List PartM
  ids : List Nat
  restart : Int
  data : List UInt8
def SegM.none_ : SegM := ⟨0, 0, 0, [], [], 0, 0, 0, [], [], [], 0, []⟩
/-- an answer, or an error's number -/
inductive Res (α : Type) where
  | bad (code : Nat)
  | ok (a : α)

/-- the kind of a marker's code -/
def kindM (c : Nat) : Nat :=
  if c = 1 then 4 else if c < 192 ∨ c = 255 then 0 else if c = 196 ∨ c = 200 ∨ c = 204 then 7 else if c < 208 then 5 else if c < 216 then 3
  else if c = 216 then 1 else if c = 217 then 2 else if c = 218 then 6 else 7
/-- why a code is refused; 0: it is not -/
def refM (c : Nat) : Nat :=
  if c = 194 then 156 else if 201 ≤ c ∧ c ≤ 207 then 157 else if c = 195 ∨ c = 197 ∨ c = 198 ∨ c = 199 ∨ c = 200 ∨ c = 222 ∨ c = 223 then 160 else if c = 220 then 159 else 0
def mayM (c : Nat) : Bool := c == 192 || c == 193 || (decide (224 ≤ c) && decide (c ≤ 254)) || c == 196 || c == 219 || c == 221 || c == 218

/-- 64 steps of one byte, of two -/
def tab1 (l : List UInt8) : List Nat := (l.take 64).map (·.toNat)
def two (a b : UInt8) : Nat := 256 * a.toNat + b.toNat
def tab2 (l : List UInt8) : List Nat := (List.range 64).map fun k => two (l.getD (2 * k) 0) (l.getD (2 * k + 1) 0)
def tabOf (wide : Bool) (l : List UInt8) : List Nat := if wide then tab2 l else tab1 l
def zeroM (t : List Nat) : Bool := t.any (· == 0)
def largeM (t : List Nat) : Bool := t.any (fun x => decide (255 < x))

def quantsM : Nat → List UInt8 → List QuantM → Res (List QuantM)
  | 0, _, acc => .ok acc
  | _ + 1, [], acc => .ok acc
  | n + 1, b :: l, acc =>
    if 1 < b.toNat / 16 ∨ 3 < b.toNat % 16 then .bad 153
    else if l.length < 64 * (1 + b.toNat / 16) then .bad 152
    else if zeroM (tabOf (b.toNat / 16 == 1) l) then .bad 153
    else quantsM n (l.drop (64 * (1 + b.toNat / 16))) (acc ++ [⟨b.toNat % 16, b.toNat / 16 == 1, tabOf (b.toNat / 16 == 1) l⟩])

/-- how many codes, how much of all codes of 16 bits they take -/
def sTo (c : List Nat) : Nat → Nat
  | 0 => 0
  | k + 1 => sTo c k + c.getD k 0
def wTo (c : List Nat) : Nat → Nat
  | 0 => 0
  | k + 1 => wTo c k + c.getD k 0 * 2 ^ (15 - k)
def sumM (c : List Nat) : Nat := sTo c 16
def weightM (c : List Nat) : Nat := wTo c 16
def huffOk (c v : List Nat) : Bool := decide (sumM c ≠ 0) && decide (sumM c ≤ 256) && decide (sumM c = v.length) && decide (weightM c ≤ 65535) && decide v.Nodup

def huffsM : Nat → List UInt8 → List HuffM → Res (List HuffM)
  | 0, _, acc => .ok acc
  | _ + 1, [], acc => .ok acc
  | n + 1, b :: l, acc =>
    if 1 < b.toNat / 16 ∨ 3 < b.toNat % 16 then .bad 153
    else if l.length < 16 then .bad 152
    else if (l.drop 16).length < sumM ((l.take 16).map (·.toNat)) then .bad 152
    else if huffOk ((l.take 16).map (·.toNat)) (((l.drop 16).take (sumM ((l.take 16).map (·.toNat)))).map (·.toNat)) = false then .bad 153
    else huffsM n ((l.drop 16).drop (sumM ((l.take 16).map (·.toNat)))) (acc ++ [⟨b.toNat / 16, b.toNat % 16, (l.take 16).map (·.toNat), ((l.drop 16).take (sumM ((l.take 16).map (·.toNat)))).map (·.toNat)⟩])

/-- the greatest factors; what is wrong with a frame -/
def mTo (v : List Nat) : Nat → Nat
  | 0 => 0
  | k + 1 => Nat.max (mTo v k) (v.getD k 0)
def mostM (f : CompM → Nat) (l : List CompM) : Nat := mTo (l.map f) l.length
def factM (c : CompM) : Bool := decide (c.h < 1 ∨ 4 < c.h ∨ c.v < 1 ∨ 4 < c.v)
def ratioM (h v : Nat) (c : CompM) : Bool := decide (h % c.h ≠ 0 ∨ v % c.v ≠ 0)
def idsM (l : List CompM) : Bool := decide (¬ (l.map (·.id)).Nodup) || l.any (fun c => decide (3 < c.q))
def geomM (width height : Int) (l : List CompM) : Nat :=
  if width < 1 ∨ 65535 < width ∨ height < 1 ∨ 65535 < height then 140
  else if l.length < 1 ∨ 4 < l.length then 143
  else if idsM l then 143
  else if l.any factM then 141
  else if l.any (ratioM (mostM (·.h) l) (mostM (·.v) l)) then 142
  else 0
def framedM (width height : Int) (l : List CompM) : Nat :=
  if height = 0 then 159 else if geomM width height l = 0 then 0 else if geomM width height l = 142 then 142 else 154

def compsM : List UInt8 → List CompM
  | a :: b :: c :: l => ⟨a.toNat, b.toNat / 16, b.toNat % 16, c.toNat⟩ :: compsM l
  | _ => []
def partsM : List UInt8 → List (Nat × PartM)
  | a :: b :: l => (a.toNat, ⟨0, b.toNat / 16, b.toNat % 16⟩) :: partsM l
  | _ => []
def lead (l : List UInt8) : Nat := (l.getD 0 0).toNat

/-- what the data of a code says -/
def contM (c : Nat) (d : List UInt8) : Res SegM :=
  let s : SegM := { SegM.none_ with code := c }
  if c = 219 then
    if d = [] then .bad 152 else match quantsM d.length d [] with | .bad e => .bad e | .ok l => .ok { s with quants := l }
  else if c = 196 then
    if d = [] then .bad 152 else match huffsM d.length d [] with | .bad e => .bad e | .ok l => .ok { s with huffs := l }
  else if c = 192 ∨ c = 193 then
    if d.length < 6 ∨ d.length ≠ 6 + 3 * (d.getD 5 0).toNat then .bad 152
    else if lead d ≠ 8 then .bad 158
    else if framedM (two (d.getD 3 0) (d.getD 4 0)) (two (d.getD 1 0) (d.getD 2 0)) (compsM (d.drop 6)) ≠ 0 then .bad (framedM (two (d.getD 3 0) (d.getD 4 0)) (two (d.getD 1 0) (d.getD 2 0)) (compsM (d.drop 6)))
    else .ok { s with kind := c, height := two (d.getD 1 0) (d.getD 2 0), width := two (d.getD 3 0) (d.getD 4 0), comps := compsM (d.drop 6) }
  else if c = 218 then
    if d = [] ∨ d.length ≠ 4 + 2 * lead d then .bad 152
    else if lead d < 1 ∨ 4 < lead d ∨ d.drop (d.length - 3) ≠ [0, 63, 0] then .bad 155
    else if (partsM ((d.drop 1).take (2 * lead d))).any (fun p => decide (3 < p.2.dc ∨ 3 < p.2.ac)) then .bad 155
    else .ok { s with ids := (partsM ((d.drop 1).take (2 * lead d))).map (·.1), parts := (partsM ((d.drop 1).take (2 * lead d))).map (·.2) }
  else if c = 221 then
    if d.length ≠ 2 then .bad 152 else .ok { s with restart := two (d.getD 0 0) (d.getD 1 0) }
  else .ok { s with data := d }

/-- a fault: an error's number and a place -/
inductive Read where
  | fault (code : Nat) (place : Int)
  | seg (s : SegM)
def readM (f : List UInt8) (p : Int) : Read :=
  if p < 0 ∨ (f.length : Int) < p then .fault 3 p
  else if p = f.length then .fault 44 f.length
  else if (f.getD p.toNat 0).toNat ≠ 255 then .fault 151 p
  else if p + 1 = f.length then .fault 44 f.length
  else if refM (f.getD (p.toNat + 1) 0).toNat ≠ 0 then .fault (refM (f.getD (p.toNat + 1) 0).toNat) p
  else if mayM (f.getD (p.toNat + 1) 0).toNat = false then .fault 151 p
  else if (f.length : Int) < p + 4 then .fault 44 f.length
  else if two (f.getD (p.toNat + 2) 0) (f.getD (p.toNat + 3) 0) < 2 then .fault 152 (p + 2)
  else if (f.length : Int) < p + 2 + (two (f.getD (p.toNat + 2) 0) (f.getD (p.toNat + 3) 0) : Nat) then .fault 44 f.length
  else match contM (f.getD (p.toNat + 1) 0).toNat ((f.drop (p.toNat + 4)).take (two (f.getD (p.toNat + 2) 0) (f.getD (p.toNat + 3) 0) - 2)) with
    | .bad e => .fault e (if e = 152 then p + 2 else p)
    | .ok s => .seg { s with at_ := p, end_ := p + 2 + (two (f.getD (p.toNat + 2) 0) (f.getD (p.toNat + 3) 0) : Nat) }

/-- a number of two bytes -/
def num2 (n : Nat) : List UInt8 := [UInt8.ofNat (n / 256 % 256), UInt8.ofNat (n % 256)]
def quantB (q : QuantM) : List UInt8 := if q.wide then UInt8.ofNat (16 + q.id) :: q.tab.flatMap num2 else UInt8.ofNat q.id :: q.tab.map UInt8.ofNat
def quantBad (q : QuantM) : Bool := decide (3 < q.id) || zeroM q.tab || (largeM q.tab && !q.wide)
def huffB (h : HuffM) : List UInt8 := UInt8.ofNat (16 * h.cls + h.id) :: (h.cnt.map UInt8.ofNat ++ h.vals.map UInt8.ofNat)
def huffBad (h : HuffM) : Bool := decide (1 < h.cls) || decide (3 < h.id) || !huffOk h.cnt h.vals
def compB (c : CompM) : List UInt8 := [UInt8.ofNat c.id, UInt8.ofNat (16 * c.h + c.v), UInt8.ofNat c.q]
/-- the data of a segment -/
def dataM (s : SegM) : Res (List UInt8) :=
  if s.code = 219 then
    if s.quants.any quantBad then .bad 153 else if s.quants = [] then .bad 152 else .ok (s.quants.flatMap quantB)
  else if s.code = 196 then
    if s.huffs.any huffBad then .bad 153 else if s.huffs = [] then .bad 152 else .ok (s.huffs.flatMap huffB)
  else if s.code = 192 ∨ s.code = 193 then
    if framedM s.width s.height s.comps ≠ 0 then .bad (framedM s.width s.height s.comps)
    else .ok (8 :: (num2 s.height.toNat ++ num2 s.width.toNat ++ [UInt8.ofNat s.comps.length] ++ s.comps.flatMap compB))
  else if s.code = 218 then
    if s.parts.length < 1 ∨ 4 < s.parts.length ∨ s.ids.length ≠ s.parts.length then .bad 155
    else if s.parts.any (fun p => decide (3 < p.dc ∨ 3 < p.ac)) then .bad 155
    else .ok (UInt8.ofNat s.parts.length :: ((s.ids.zip s.parts).flatMap (fun (i, p) => [UInt8.ofNat i, UInt8.ofNat (16 * p.dc + p.ac)]) ++ [0, 63, 0]))
  else if s.code = 221 then
    if s.restart < 0 ∨ 65535 < s.restart then .bad 3 else .ok (num2 s.restart.toNat)
  else .ok s.data
def textM (s : SegM) : Res (List UInt8) :=
  if refM s.code ≠ 0 ∨ mayM s.code = false then .bad 151
  else match dataM s with
    | .bad e => .bad e
    | .ok d => if 65533 < d.length then .bad 152 else .ok (255 :: UInt8.ofNat s.code :: (num2 (d.length + 2) ++ d))
end Go.Proofs.YtjfgfoeenajneaaGreatDoor.Sg
namespace Go.Proofs.YtjfgfoeenajneaaGreatDoor.Sg

theorem ofNat_toNat (n : Nat) (h : n < 256) : (UInt8.ofNat n).toNat = n := by
  rw [UInt8.toNat_ofNat']; exact Nat.mod_eq_of_lt h
theorem toNat_lt (b : UInt8) : b.toNat < 256 := b.toNat_lt
theorem two_num2 (n : Nat) (h : n < 65536) : two (UInt8.ofNat (n / 256 % 256)) (UInt8.ofNat (n % 256)) = n := by
  unfold two
  rw [ofNat_toNat _ (by omega), ofNat_toNat _ (by omega)]
  omega
theorem num2_two (a b : UInt8) : num2 (two a b) = [a, b] := by
  have h1 := a.toNat_lt
  have h2 := b.toNat_lt
  unfold num2 two
  rw [show (256 * a.toNat + b.toNat) / 256 % 256 = a.toNat by omega, show (256 * a.toNat + b.toNat) % 256 = b.toNat by omega, UInt8.ofNat_toNat, UInt8.ofNat_toNat]

/-! ### tables of steps -/
theorem map_back (t : List Nat) (h : ∀ x ∈ t, x < 256) : (t.map UInt8.ofNat).map (·.toNat) = t := by
  rw [List.map_map]
  conv => rhs; rw [← List.map_id t]
  apply List.map_congr_left
  intro x hx
  exact ofNat_toNat x (h x hx)
theorem back_map (l : List UInt8) : (l.map (·.toNat)).map UInt8.ofNat = l := by
  rw [List.map_map]
  conv => rhs; rw [← List.map_id l]
  apply List.map_congr_left
  intro x _
  exact UInt8.ofNat_toNat
theorem tab1_map (t : List Nat) (r : List UInt8) (h : t.length = 64) (hb : ∀ x ∈ t, x < 256) : tab1 (t.map UInt8.ofNat ++ r) = t := by
  unfold tab1
  rw [List.take_left' (by simpa using h), map_back t hb]
theorem flat2_get : ∀ (t : List Nat) (r : List UInt8) (k : Nat), k < t.length → (t.flatMap num2 ++ r).getD (2 * k) 0 = UInt8.ofNat (t.getD k 0 / 256 % 256) ∧ (t.flatMap num2 ++ r).getD (2 * k + 1) 0 = UInt8.ofNat (t.getD k 0 % 256)
  | [], r, k, h => by simp at h
  | a :: t, r, 0, _ => by simp [num2]
  | a :: t, r, k + 1, h => by
    have ih := flat2_get t r k (by simpa using h)
    have e1 : 2 * (k + 1) = (2 * k) + 1 + 1 := by omega
    rw [e1]
    simp only [List.flatMap_cons, num2, List.cons_append, List.nil_append, List.getD_cons_succ]
    exact ih
theorem flat2_length : ∀ t : List Nat, (t.flatMap num2).length = 2 * t.length
  | [] => rfl
  | a :: t => by rw [List.flatMap_cons, List.length_append, flat2_length t]; simp [num2]; omega
theorem tab2_flat (t : List Nat) (r : List UInt8) (h : t.length = 64) (hb : ∀ x ∈ t, x < 65536) : tab2 (t.flatMap num2 ++ r) = t := by
  unfold tab2
  apply List.ext_getElem (by simp [h])
  intro i h1 h2
  simp only [List.getElem_map, List.getElem_range]
  obtain ⟨e1, e2⟩ := flat2_get t r i h2
  rw [e1, e2, two_num2]
  · rw [List.getD_eq_getElem?_getD, List.getElem?_eq_getElem h2]; rfl
  · rw [List.getD_eq_getElem?_getD, List.getElem?_eq_getElem h2]
    exact hb _ (List.getElem_mem h2)

/-- a table of steps whose numbers are bytes, or of two bytes -/
def QuantM.wf (q : QuantM) : Prop := q.id < 256 ∧ q.tab.length = 64 ∧ ∀ x ∈ q.tab, x < 65536
theorem quant_good {q : QuantM} (h : quantBad q = false) : q.id ≤ 3 ∧ zeroM q.tab = false ∧ (q.wide = false → ∀ x ∈ q.tab, x < 256) := by
  unfold quantBad at h
  simp only [Bool.or_eq_false_iff, decide_eq_false_iff_not, Bool.and_eq_false_iff] at h
  refine ⟨by omega, h.1.2, fun hw x hx => ?_⟩
  rcases h.2 with h2 | h2
  · unfold largeM at h2
    rw [List.any_eq_false] at h2
    have := h2 x hx
    simp at this
    omega
  · rw [hw] at h2; simp at h2
theorem quants_step (q : QuantM) (r : List UInt8) (n : Nat) (acc : List QuantM) (hw : q.wf) (hg : quantBad q = false) : quantsM (n + 1) (quantB q ++ r) acc = quantsM n r (acc ++ [q]) := by
  obtain ⟨g1, g2, g3⟩ := quant_good hg
  obtain ⟨w1, w2, w3⟩ := hw
  obtain ⟨id, wide, tab⟩ := q
  cases wide with
  | false =>
    have e0 : (UInt8.ofNat id).toNat = id := ofNat_toNat _ (by exact w1)
    have g1' : id ≤ 3 := g1
    simp only [quantB, Bool.false_eq_true, if_false, List.cons_append, quantsM, e0]
    rw [show id / 16 = 0 by omega, show id % 16 = id by omega, if_neg (by omega), if_neg (by simp; have : tab.length = 64 := w2; omega)]
    have e1 : tabOf (0 == 1) (tab.map UInt8.ofNat ++ r) = tab := tab1_map tab r w2 (g3 rfl)
    rw [e1, if_neg (by rw [show zeroM tab = false from g2]; simp), List.drop_left' (by simpa using w2)]
    rfl
  | true =>
    have g1' : id ≤ 3 := g1
    have e0 : (UInt8.ofNat (16 + id)).toNat = 16 + id := ofNat_toNat _ (by omega)
    simp only [quantB, if_true, List.cons_append, quantsM, e0]
    have hl : (tab.flatMap num2).length = 128 := by rw [flat2_length, show tab.length = 64 from w2]
    rw [show (16 + id) / 16 = 1 by omega, show (16 + id) % 16 = id by omega, if_neg (by omega), if_neg (by rw [List.length_append, hl]; omega)]
    have e1 : tabOf (1 == 1) (tab.flatMap num2 ++ r) = tab := tab2_flat tab r w2 w3
    rw [e1, if_neg (by rw [show zeroM tab = false from g2]; simp), List.drop_left' hl]
    rfl
theorem quantB_pos (q : QuantM) : 1 ≤ (quantB q).length := by unfold quantB; split <;> simp
theorem quants_back : ∀ (l : List QuantM) (n : Nat) (acc : List QuantM), (∀ q ∈ l, q.wf) → (∀ q ∈ l, quantBad q = false) → (l.flatMap quantB).length ≤ n → quantsM n (l.flatMap quantB) acc = .ok (acc ++ l)
  | [], n, acc, _, _, _ => by cases n <;> simp [quantsM]
  | q :: l, n, acc, hw, hg, hn => by
    have h1 := quantB_pos q
    rw [List.flatMap_cons, List.length_append] at hn
    obtain ⟨m, rfl⟩ : ∃ m, n = m + 1 := ⟨n - 1, by omega⟩
    rw [List.flatMap_cons, quants_step q _ m acc (hw q (by simp)) (hg q (by simp)), quants_back l m _ (fun x hx => hw x (by simp [hx])) (fun x hx => hg x (by simp [hx])) (by omega), List.append_assoc]
    rfl

/-! ### tables of codes -/
def HuffM.wf (h : HuffM) : Prop := h.cls < 256 ∧ h.id < 256 ∧ h.cnt.length = 16 ∧ (∀ x ∈ h.cnt, x < 256) ∧ ∀ x ∈ h.vals, x < 256
theorem huff_good {h : HuffM} (hg : huffBad h = false) : h.cls ≤ 1 ∧ h.id ≤ 3 ∧ huffOk h.cnt h.vals = true ∧ sumM h.cnt = h.vals.length := by
  unfold huffBad at hg
  simp only [Bool.or_eq_false_iff, decide_eq_false_iff_not, Bool.not_eq_false'] at hg
  refine ⟨by omega, by omega, hg.2, ?_⟩
  have := hg.2
  unfold huffOk at this
  simp only [Bool.and_eq_true, decide_eq_true_eq] at this
  exact this.1.1.2
theorem huffs_step (h : HuffM) (r : List UInt8) (n : Nat) (acc : List HuffM) (hw : h.wf) (hg : huffBad h = false) : huffsM (n + 1) (huffB h ++ r) acc = huffsM n r (acc ++ [h]) := by
  obtain ⟨g1, g2, g3, g4⟩ := huff_good hg
  obtain ⟨w1, w2, w3, w4, w5⟩ := hw
  obtain ⟨cls, id, cnt, vals⟩ := h
  have g1' : cls ≤ 1 := g1
  have g2' : id ≤ 3 := g2
  have e0 : (UInt8.ofNat (16 * cls + id)).toNat = 16 * cls + id := ofNat_toNat _ (by omega)
  have e1 : ((cnt.map UInt8.ofNat ++ vals.map UInt8.ofNat) ++ r).take 16 = cnt.map UInt8.ofNat := by
    rw [List.append_assoc]; exact List.take_left' (by simpa using w3)
  have e2 : ((cnt.map UInt8.ofNat ++ vals.map UInt8.ofNat) ++ r).drop 16 = vals.map UInt8.ofNat ++ r := by
    rw [List.append_assoc]; exact List.drop_left' (by simpa using w3)
  have e3 : (cnt.map UInt8.ofNat).map (·.toNat) = cnt := map_back cnt w4
  have e4 : (vals.map UInt8.ofNat ++ r).take (sumM cnt) = vals.map UInt8.ofNat := List.take_left' (by simpa using g4.symm)
  have e5 : (vals.map UInt8.ofNat).map (·.toNat) = vals := map_back vals w5
  have e6 : (vals.map UInt8.ofNat ++ r).drop (sumM cnt) = r := List.drop_left' (by simpa using g4.symm)
  simp only [huffB, List.cons_append, huffsM, e0]
  rw [e1, e2, e3, e4, e5, e6, show (16 * cls + id) / 16 = cls by omega, show (16 * cls + id) % 16 = id by omega, if_neg (by omega), if_neg (by have : cnt.length = 16 := w3; simp; omega), if_neg (by have : sumM cnt = vals.length := g4; simp; omega), if_neg (by rw [show huffOk cnt vals = true from g3]; simp)]
theorem huffB_pos (h : HuffM) : 1 ≤ (huffB h).length := by unfold huffB; simp
theorem huffs_back : ∀ (l : List HuffM) (n : Nat) (acc : List HuffM), (∀ q ∈ l, q.wf) → (∀ q ∈ l, huffBad q = false) → (l.flatMap huffB).length ≤ n → huffsM n (l.flatMap huffB) acc = .ok (acc ++ l)
  | [], n, acc, _, _, _ => by cases n <;> simp [huffsM]
  | q :: l, n, acc, hw, hg, hn => by
    have h1 := huffB_pos q
    rw [List.flatMap_cons, List.length_append] at hn
    obtain ⟨m, rfl⟩ : ∃ m, n = m + 1 := ⟨n - 1, by omega⟩
    rw [List.flatMap_cons, huffs_step q _ m acc (hw q (by simp)) (hg q (by simp)), huffs_back l m _ (fun x hx => hw x (by simp [hx])) (fun x hx => hg x (by simp [hx])) (by omega), List.append_assoc]
    rfl
end Go.Proofs.YtjfgfoeenajneaaGreatDoor.Sg
namespace Go.Proofs.YtjfgfoeenajneaaGreatDoor.Sg

/-- a segment's numbers are bytes where they have to be -/
structure SegM.wf (m : SegM) : Prop where
  code : m.code < 256
  quants : ∀ q ∈ m.quants, q.wf
  huffs : ∀ h ∈ m.huffs, h.wf
  comps : ∀ c ∈ m.comps, c.id < 256 ∧ c.h < 256 ∧ c.v < 256 ∧ c.q < 256
  parts : ∀ p ∈ m.parts, p.dc < 256 ∧ p.ac < 256
  ids : ∀ x ∈ m.ids, x < 256
/-- the fields alone that a code has -/
def plainM (m : SegM) (a b : Int) : SegM :=
  let s : SegM := { SegM.none_ with code := m.code, at_ := a, end_ := b }
  if m.code = 219 then { s with quants := m.quants }
  else if m.code = 196 then { s with huffs := m.huffs }
  else if m.code = 192 ∨ m.code = 193 then { s with kind := m.code, width := m.width, height := m.height, comps := m.comps }
  else if m.code = 218 then { s with ids := m.ids, parts := m.parts.map fun p => { p with comp := 0 } }
  else if m.code = 221 then { s with restart := m.restart }
  else { s with data := m.data }
theorem comps_back : ∀ l : List CompM, (∀ c ∈ l, c.id < 256 ∧ c.h < 16 ∧ c.v < 16 ∧ c.q < 256) → compsM (l.flatMap compB) = l
  | [], _ => rfl
  | c :: l, h => by
    obtain ⟨h1, h2, h3, h4⟩ := h c (by simp)
    have ih := comps_back l (fun x hx => h x (by simp [hx]))
    obtain ⟨id, ch, cv, q⟩ := c
    have h1 : id < 256 := h1
    have h2 : ch < 16 := h2
    have h3 : cv < 16 := h3
    have h4 : q < 256 := h4
    have e1 := ofNat_toNat id h1
    have e2 := ofNat_toNat (16 * ch + cv) (by omega)
    have e4 := ofNat_toNat q h4
    simp only [List.flatMap_cons, compB, List.cons_append, List.nil_append, compsM]
    rw [e1, e2, e4, ih, show (16 * ch + cv) / 16 = ch by omega, show (16 * ch + cv) % 16 = cv by omega]
theorem compsW_len (l : List CompM) : (l.flatMap compB).length = 3 * l.length := by
  induction l with
  | nil => rfl
  | cons c l ih => rw [List.flatMap_cons, List.length_append, ih]; simp [compB]; omega
def partW (x : Nat × PartM) : List UInt8 := [UInt8.ofNat x.1, UInt8.ofNat (16 * x.2.dc + x.2.ac)]
theorem parts_back : ∀ l : List (Nat × PartM), (∀ x ∈ l, x.1 < 256 ∧ x.2.dc < 16 ∧ x.2.ac < 16) → partsM (l.flatMap partW) = l.map fun x => (x.1, ⟨0, x.2.dc, x.2.ac⟩)
  | [], _ => rfl
  | c :: l, h => by
    obtain ⟨h1, h2, h3⟩ := h c (by simp)
    have ih := parts_back l (fun x hx => h x (by simp [hx]))
    obtain ⟨id, pc, dc, ac⟩ := c
    have h1 : id < 256 := h1
    have h2 : dc < 16 := h2
    have h3 : ac < 16 := h3
    have e1 := ofNat_toNat id h1
    have e2 := ofNat_toNat (16 * dc + ac) (by omega)
    simp only [List.flatMap_cons, partW, List.cons_append, List.nil_append, partsM, List.map_cons]
    rw [e1, e2, show (16 * dc + ac) / 16 = dc by omega, show (16 * dc + ac) % 16 = ac by omega]
    congr 1
theorem partW_len (l : List (Nat × PartM)) : (l.flatMap partW).length = 2 * l.length := by
  induction l with
  | nil => rfl
  | cons c l ih => rw [List.flatMap_cons, List.length_append, ih]; simp [partW]; omega
theorem geom_fits {w h : Int} {l : List CompM} (hg : framedM w h l = 0) : 1 ≤ w ∧ w ≤ 65535 ∧ 1 ≤ h ∧ h ≤ 65535 ∧ l.length ≤ 4 ∧ ∀ c ∈ l, c.h ≤ 4 ∧ c.v ≤ 4 := by
  unfold framedM at hg
  split at hg
  · omega
  · split at hg
    · rename_i h0 h1
      unfold geomM at h1
      split at h1
      · omega
      · split at h1
        · omega
        · split at h1
          · omega
          · split at h1
            · omega
            · rename_i q1 q2 q3 q4
              refine ⟨by omega, by omega, by omega, by omega, by omega, fun c hc => ?_⟩
              have h9 : l.any factM = false := by simpa using q4
              have h8 := List.any_eq_false.1 h9 c hc
              unfold factM at h8
              simp at h8
              omega
    · split at hg <;> omega
theorem zip_fst {l : List Nat} {m : List PartM} (h : l.length = m.length) : (l.zip m).map (·.1) = l := by
  rw [List.map_fst_zip]; omega
theorem zip_snd {l : List Nat} {m : List PartM} (h : l.length = m.length) : (l.zip m).map (·.2) = m := by
  rw [List.map_snd_zip]; omega
theorem ofNat_ne {n : Nat} {l : List UInt8} : (UInt8.ofNat n :: l) ≠ [] := by simp
/-- THE DATA THAT IS WRITTEN IS READ AGAIN -/
theorem cont_back {m : SegM} (hw : m.wf) {d : List UInt8} (h : dataM m = .ok d) (hl : d.length ≤ 65533) : contM m.code d = .ok (plainM m 0 0) := by
  unfold dataM at h
  unfold contM plainM
  by_cases c1 : m.code = 219
  · rw [if_pos c1] at h
    rw [if_pos c1, if_pos c1]
    split at h
    · cases h
    · rename_i hb
      split at h
      · cases h
      · rename_i hn
        injection h with h
        subst h
        have hb : m.quants.any quantBad = false := by simpa using hb
        have hne : m.quants.flatMap quantB ≠ [] := by
          obtain ⟨q, l, e⟩ := List.exists_cons_of_ne_nil hn
          rw [e, List.flatMap_cons]
          intro e2
          have := quantB_pos q
          rw [List.append_eq_nil_iff] at e2
          rw [e2.1] at this
          simp at this
        rw [if_neg hne, quants_back _ _ [] hw.quants (fun q hq => by simpa using List.any_eq_false.1 hb q hq) (Nat.le_refl _)]
        rfl
  rw [if_neg c1] at h
  rw [if_neg c1, if_neg c1]
  by_cases c2 : m.code = 196
  · rw [if_pos c2] at h
    rw [if_pos c2, if_pos c2]
    split at h
    · cases h
    · rename_i hb
      split at h
      · cases h
      · rename_i hn
        injection h with h
        subst h
        have hb : m.huffs.any huffBad = false := by simpa using hb
        have hne : m.huffs.flatMap huffB ≠ [] := by
          obtain ⟨q, l, e⟩ := List.exists_cons_of_ne_nil hn
          rw [e, List.flatMap_cons]
          intro e2
          have := huffB_pos q
          rw [List.append_eq_nil_iff] at e2
          rw [e2.1] at this
          simp at this
        rw [if_neg hne, huffs_back _ _ [] hw.huffs (fun q hq => by simpa using List.any_eq_false.1 hb q hq) (Nat.le_refl _)]
        rfl
  rw [if_neg c2] at h
  rw [if_neg c2, if_neg c2]
  by_cases c3 : m.code = 192 ∨ m.code = 193
  · rw [if_pos c3] at h
    rw [if_pos c3, if_pos c3]
    split at h
    · cases h
    · rename_i hf
      injection h with h
      have hf : framedM m.width m.height m.comps = 0 := by omega
      obtain ⟨g1, g2, g3, g4, g5, g6⟩ := geom_fits hf
      have hlen : (UInt8.ofNat m.comps.length).toNat = m.comps.length := ofNat_toNat _ (by omega)
      have hcb := comps_back m.comps (fun c hc => by have := hw.comps c hc; have := g6 c hc; omega)
      have hcl := compsW_len m.comps
      generalize hC : m.comps.flatMap compB = C at h hcb hcl
      obtain ⟨hn, hhn⟩ : ∃ n : Nat, m.height = n := ⟨m.height.toNat, by omega⟩
      obtain ⟨wn, hwn⟩ : ∃ n : Nat, m.width = n := ⟨m.width.toNat, by omega⟩
      rw [hhn, hwn] at h hf
      rw [hhn] at g3 g4
      rw [hwn] at g1 g2
      have t1 := two_num2 hn (by omega)
      have t2 := two_num2 wn (by omega)
      have hd : d = 8 :: UInt8.ofNat (hn / 256 % 256) :: UInt8.ofNat (hn % 256) :: UInt8.ofNat (wn / 256 % 256) :: UInt8.ofNat (wn % 256) :: UInt8.ofNat m.comps.length :: C := by
        rw [← h]; rfl
      subst hd
      simp only [List.getD_cons_succ, List.getD_cons_zero, List.length_cons, List.drop_succ_cons, List.drop_zero, lead, hlen, t1, t2, hcb, hcl]
      rw [if_neg (by omega), if_neg (by decide), hf, if_neg (by decide), hhn, hwn]
      rfl
  rw [if_neg c3] at h
  rw [if_neg c3, if_neg c3]
  by_cases c4 : m.code = 218
  · rw [if_pos c4] at h
    rw [if_pos c4, if_pos c4]
    split at h
    · cases h
    · rename_i hn
      split at h
      · cases h
      · rename_i hp
        injection h with h
        have hp : m.parts.any (fun p => decide (3 < p.dc ∨ 3 < p.ac)) = false := by simpa using hp
        have hz : m.ids.length = m.parts.length := by omega
        have hpp : ∀ p ∈ m.parts, p.dc ≤ 3 ∧ p.ac ≤ 3 := fun p hx => by
          have := List.any_eq_false.1 hp p hx
          simp at this
          omega
        have hlen : (UInt8.ofNat m.parts.length).toNat = m.parts.length := ofNat_toNat _ (by omega)
        have hzl : (m.ids.zip m.parts).length = m.parts.length := by rw [List.length_zip]; omega
        have hb := parts_back (m.ids.zip m.parts) (fun x hx => by
          obtain ⟨a, b⟩ := x
          have h1 := List.of_mem_zip hx
          have := hw.ids a h1.1
          have := hpp b h1.2
          exact ⟨by omega, by show b.dc < 16; omega, by show b.ac < 16; omega⟩)
        have hwl := partW_len (m.ids.zip m.parts)
        rw [hzl] at hwl
        have hd : d = UInt8.ofNat m.parts.length :: ((m.ids.zip m.parts).flatMap partW ++ [0, 63, 0]) := by rw [← h]; rfl
        generalize hW : (m.ids.zip m.parts).flatMap partW = W at hd hb hwl
        subst hd
        have hlead : lead (UInt8.ofNat m.parts.length :: (W ++ [0, 63, 0])) = m.parts.length := hlen
        have hdl : (UInt8.ofNat m.parts.length :: (W ++ [0, 63, 0])).length = 4 + 2 * m.parts.length := by
          simp only [List.length_cons, List.length_append, List.length_nil, hwl]; omega
        have htail : (UInt8.ofNat m.parts.length :: (W ++ [0, 63, 0])).drop ((UInt8.ofNat m.parts.length :: (W ++ [0, 63, 0])).length - 3) = [0, 63, 0] := by
          rw [hdl, show 4 + 2 * m.parts.length - 3 = 2 * m.parts.length + 1 by omega, List.drop_succ_cons, List.drop_left' hwl]
        have hmid : ((UInt8.ofNat m.parts.length :: (W ++ [0, 63, 0])).drop 1).take (2 * lead (UInt8.ofNat m.parts.length :: (W ++ [0, 63, 0]))) = W := by
          rw [hlead, List.drop_succ_cons, List.drop_zero, List.take_left' hwl]
        rw [if_neg (by rw [hlead, hdl]; simp), if_neg (by intro h9; rw [hlead] at h9; rcases h9 with h9 | h9 | h9; exact absurd h9 (by omega); exact absurd h9 (by omega); exact h9 htail), hmid, hb, if_neg]
        · simp only [List.map_map]
          congr 2
          · conv => rhs; rw [← zip_snd hz, List.map_map]
            rfl
          · exact zip_fst hz
        · simp only [List.any_map, Bool.not_eq_true]
          rw [List.any_eq_false]
          intro x hx
          obtain ⟨a, b⟩ := x
          have := hpp b (List.of_mem_zip hx).2
          simp
          omega
  rw [if_neg c4] at h
  rw [if_neg c4, if_neg c4]
  by_cases c5 : m.code = 221
  · rw [if_pos c5] at h
    rw [if_pos c5, if_pos c5]
    split at h
    · cases h
    · rename_i hr
      injection h with h
      subst h
      obtain ⟨n, hn⟩ : ∃ n : Nat, m.restart = n := ⟨m.restart.toNat, by omega⟩
      rw [hn] at hr
      have t1 := two_num2 n (by omega)
      rw [hn]
      simp only [num2, Int.toNat_natCast, List.length_cons, List.length_nil, List.getD_cons_succ, List.getD_cons_zero, t1]
      rfl
  · rw [if_neg c5] at h
    injection h with h
    subst h
    rw [if_neg c5, if_neg c5]
    rfl
end Go.Proofs.YtjfgfoeenajneaaGreatDoor.Sg
namespace Go.Proofs.YtjfgfoeenajneaaGreatDoor.Sg

theorem text_parts {m : SegM} {t : List UInt8} (h : textM m = .ok t) : refM m.code = 0 ∧ mayM m.code = true ∧ ∃ d, dataM m = .ok d ∧ d.length ≤ 65533 ∧ t = 255 :: UInt8.ofNat m.code :: (num2 (d.length + 2) ++ d) := by
  unfold textM at h
  split at h
  · cases h
  · rename_i h1
    split at h
    · cases h
    · rename_i d hd
      split at h
      · cases h
      · rename_i h2
        injection h with h
        refine ⟨by omega, ?_, d, hd, by omega, h.symm⟩
        cases h9 : mayM m.code with
        | true => rfl
        | false => exact absurd (.inr h9) h1
theorem text_of {m : SegM} {d : List UInt8} (h1 : refM m.code = 0) (h2 : mayM m.code = true) (h3 : dataM m = .ok d) (h4 : d.length ≤ 65533) : textM m = .ok (255 :: UInt8.ofNat m.code :: (num2 (d.length + 2) ++ d)) := by
  unfold textM
  rw [if_neg (by rw [h2]; simp [h1]), h3]
  show (if 65533 < d.length then _ else _) = _
  rw [if_neg (by omega)]
theorem plainM_at (m : SegM) (a b : Int) : { plainM m 0 0 with at_ := a, end_ := b } = plainM m a b := by
  unfold plainM
  by_cases h1 : m.code = 219
  · rw [if_pos h1, if_pos h1]
  rw [if_neg h1, if_neg h1]
  by_cases h2 : m.code = 196
  · rw [if_pos h2, if_pos h2]
  rw [if_neg h2, if_neg h2]
  by_cases h3 : m.code = 192 ∨ m.code = 193
  · rw [if_pos h3, if_pos h3]
  rw [if_neg h3, if_neg h3]
  by_cases h4 : m.code = 218
  · rw [if_pos h4, if_pos h4]
  rw [if_neg h4, if_neg h4]
  by_cases h5 : m.code = 221
  · rw [if_pos h5, if_pos h5]
  rw [if_neg h5, if_neg h5]
theorem getD_right (a l : List UInt8) (k : Nat) : (a ++ l).getD (a.length + k) 0 = l.getD k 0 := by
  rw [List.getD_eq_getElem?_getD, List.getElem?_append_right (by omega), show a.length + k - a.length = k by omega, List.getD_eq_getElem?_getD]
/-- THERE AND BACK -/
theorem read_back {m : SegM} (hw : m.wf) {t : List UInt8} (h : textM m = .ok t) (ahead behind : List UInt8) : readM (ahead ++ t ++ behind) ahead.length = .seg (plainM m ahead.length (ahead.length + t.length)) := by
  obtain ⟨h1, h2, d, h3, h4, ht⟩ := text_parts h
  have hc := hw.code
  have hce : (UInt8.ofNat m.code).toNat = m.code := ofNat_toNat _ hc
  have ht2 := two_num2 (d.length + 2) (by omega)
  have hb := cont_back hw h3 h4
  rw [List.append_assoc]
  obtain ⟨x, y, hxy⟩ : ∃ x y, num2 (d.length + 2) = [x, y] := ⟨_, _, rfl⟩
  have hxy2 : two x y = d.length + 2 := by
    unfold num2 at hxy
    injection hxy with e1 e2
    injection e2 with e2 _
    rw [← e1, ← e2]
    exact ht2
  rw [hxy] at ht
  have hg : ∀ k, (ahead ++ (t ++ behind)).getD (ahead.length + k) 0 = (t ++ behind).getD k 0 := getD_right ahead (t ++ behind)
  have g0 := hg 0
  rw [Nat.add_zero] at g0
  have g1 := hg 1
  have g2 := hg 2
  have g3 := hg 3
  have hl : (ahead ++ (t ++ behind)).length = ahead.length + (d.length + 4) + behind.length := by rw [ht]; simp; omega
  have htl : t.length = d.length + 4 := by rw [ht]; simp
  have hdr : ((ahead ++ (t ++ behind)).drop (ahead.length + 4)).take (two x y - 2) = d := by
    rw [hxy2, show ahead.length + 4 = ahead.length + (255 :: UInt8.ofNat m.code :: [x, y]).length from rfl, List.drop_append, List.drop_eq_nil_of_le (by omega), List.nil_append, show ahead.length + (255 :: UInt8.ofNat m.code :: [x, y]).length - ahead.length = (255 :: UInt8.ofNat m.code :: [x, y]).length by omega, ht, show (255 :: UInt8.ofNat m.code :: ([x, y] ++ d)) ++ behind = (255 :: UInt8.ofNat m.code :: [x, y]) ++ (d ++ behind) by simp, List.drop_left, show d.length + 2 - 2 = d.length by omega, List.take_left]
  generalize hf : ahead ++ (t ++ behind) = f at hl hdr g0 g1 g2 g3 hg
  rw [ht] at g0 g1 g2 g3
  unfold readM
  rw [Int.toNat_natCast, g0, g1, g2, g3]
  simp only [List.cons_append, List.nil_append, List.getD_cons_zero, List.getD_cons_succ, hce, hdr]
  rw [if_neg (by omega), if_neg (by omega), if_neg (by decide), if_neg (by omega), if_neg (by omega), if_neg (by rw [h2]; decide), if_neg (by omega), if_neg (by omega), if_neg (by omega), hb]
  show Read.seg { plainM m 0 0 with at_ := _, end_ := _ } = _
  rw [plainM_at, hxy2, htl]
  congr 2
  omega
/-- CUT OFF it ends with the file -/
theorem cut_back {m : SegM} (hw : m.code < 256) {t : List UInt8} (h : textM m = .ok t) (ahead : List UInt8) (n : Nat) (hn : n < t.length) : readM (ahead ++ t.take n) ahead.length = .fault 44 (ahead.length + n : Nat) := by
  obtain ⟨h1, h2, d, h3, h4, ht⟩ := text_parts h
  have hce : (UInt8.ofNat m.code).toNat = m.code := ofNat_toNat _ hw
  have ht2 := two_num2 (d.length + 2) (by omega)
  obtain ⟨x, y, hxy⟩ : ∃ x y, num2 (d.length + 2) = [x, y] := ⟨_, _, rfl⟩
  have hxy2 : two x y = d.length + 2 := by
    unfold num2 at hxy
    injection hxy with e1 e2
    injection e2 with e2 _
    rw [← e1, ← e2]
    exact ht2
  rw [hxy] at ht
  have htl : t.length = d.length + 4 := by rw [ht]; simp
  have hl : (ahead ++ t.take n).length = ahead.length + n := by rw [List.length_append, List.length_take]; omega
  have hg : ∀ k, (ahead ++ t.take n).getD (ahead.length + k) 0 = (t.take n).getD k 0 := getD_right ahead (t.take n)
  have g0 := hg 0
  rw [Nat.add_zero] at g0
  have g1 := hg 1
  have g2 := hg 2
  have g3 := hg 3
  have ht0 : ∀ k, k < n → (t.take n).getD k 0 = t.getD k 0 := fun k hk => by rw [List.getD_eq_getElem?_getD, List.getElem?_take, if_pos hk, ← List.getD_eq_getElem?_getD]
  have t0 : t.getD 0 0 = 255 := by rw [ht]; rfl
  have t1 : t.getD 1 0 = UInt8.ofNat m.code := by rw [ht]; rfl
  have t2 : t.getD 2 0 = x := by rw [ht]; rfl
  have t3 : t.getD 3 0 = y := by rw [ht]; rfl
  generalize hf : ahead ++ t.take n = f at hl hg g0 g1 g2 g3
  unfold readM
  rw [Int.toNat_natCast, g0, g1, g2, g3, hl]
  by_cases n0 : n = 0
  · rw [if_neg (by omega), if_pos (by omega)]
  rw [if_neg (by omega), if_neg (by omega), ht0 0 (by omega), t0, if_neg (by decide)]
  by_cases n1 : n = 1
  · rw [if_pos (by omega)]
  rw [if_neg (by omega), ht0 1 (by omega), t1, hce, if_neg (by omega), if_neg (by rw [h2]; decide)]
  by_cases n2 : n < 4
  · rw [if_pos (by omega)]
  rw [if_neg (by omega), ht0 2 (by omega), ht0 3 (by omega), t2, t3, hxy2, if_neg (by omega), if_pos (by omega)]

/-! ### what is read is written as it was -/
theorem tab2_back (l : List UInt8) : ∀ n, 2 * n ≤ l.length → ((List.range n).map fun k => two (l.getD (2 * k) 0) (l.getD (2 * k + 1) 0)).flatMap num2 = l.take (2 * n)
  | 0, _ => by simp
  | n + 1, h => by
    have e1 : l.take (2 * n + 1 + 1) = l.take (2 * n) ++ [l[2 * n], l[2 * n + 1]] := by
      rw [List.take_succ_eq_append_getElem (i := 2 * n + 1) (by omega), List.take_succ_eq_append_getElem (i := 2 * n) (by omega), List.append_assoc]
      rfl
    rw [List.range_succ, List.map_append, List.flatMap_append, tab2_back l n (by omega), show 2 * (n + 1) = 2 * n + 1 + 1 by omega, e1]
    simp only [List.map_cons, List.map_nil, List.flatMap_cons, List.flatMap_nil, num2_two, List.append_nil]
    rw [List.getD_eq_getElem?_getD, List.getD_eq_getElem?_getD, List.getElem?_eq_getElem (by omega), List.getElem?_eq_getElem (by omega)]
    simp
theorem byte_div (b : UInt8) (k : Nat) (h : b.toNat / 16 = k) : UInt8.ofNat (16 * k + b.toNat % 16) = b := by
  rw [← h, show 16 * (b.toNat / 16) + b.toNat % 16 = b.toNat by omega, UInt8.ofNat_toNat]
theorem byte_mk (b : UInt8) : UInt8.ofNat (16 * (b.toNat / 16) + b.toNat % 16) = b := byte_div b _ rfl
theorem quants_again : ∀ (n : Nat) (d : List UInt8) (acc l : List QuantM), d.length ≤ n → quantsM n d acc = .ok l → ∃ k, l = acc ++ k ∧ k.flatMap quantB = d ∧ k.any quantBad = false ∧ (d ≠ [] → k ≠ [])
  | 0, d, acc, l, hn, h => by
    obtain rfl : d = [] := List.eq_nil_of_length_eq_zero (by omega)
    injection h with h
    exact ⟨[], by simp [h], rfl, rfl, fun h => absurd rfl h⟩
  | n + 1, [], acc, l, _, h => by
    injection h with h
    exact ⟨[], by simp [h], rfl, rfl, fun h => absurd rfl h⟩
  | n + 1, b :: d, acc, l, hn, h => by
    have hd : d.length ≤ n := by simpa using hn
    unfold quantsM at h
    split at h
    · cases h
    · rename_i h1
      split at h
      · cases h
      · rename_i h2
        split at h
        · cases h
        · rename_i h3
          obtain ⟨k, e1, e2, e3, _⟩ := quants_again n _ _ _ (by rw [List.length_drop]; omega) h
          have h3 : zeroM (tabOf (b.toNat / 16 == 1) d) = false := by simpa using h3
          refine ⟨⟨b.toNat % 16, b.toNat / 16 == 1, tabOf (b.toNat / 16 == 1) d⟩ :: k, by rw [e1, List.append_assoc]; rfl, ?_, ?_, fun _ => by simp⟩
          · rw [List.flatMap_cons, e2]
            rcases (show b.toNat / 16 = 0 ∨ b.toNat / 16 = 1 by omega) with h9 | h9
            · rw [h9] at h2 ⊢
              show (UInt8.ofNat (b.toNat % 16) :: (tab1 d).map UInt8.ofNat) ++ _ = _
              have e4 := byte_div b 0 h9
              rw [show 16 * 0 + b.toNat % 16 = b.toNat % 16 by omega] at e4
              rw [e4]
              unfold tab1
              rw [back_map, List.cons_append]
              congr 1
              exact List.take_append_drop 64 d
            · rw [h9] at h2 ⊢
              show (UInt8.ofNat (16 + b.toNat % 16) :: (tab2 d).flatMap num2) ++ _ = _
              have e4 := byte_div b 1 h9
              rw [show 16 * 1 + b.toNat % 16 = 16 + b.toNat % 16 by omega] at e4
              rw [e4]
              unfold tab2
              rw [tab2_back d 64 (by omega), List.cons_append]
              congr 1
              exact List.take_append_drop 128 d
          · rw [List.any_cons, e3, Bool.or_false]
            unfold quantBad
            show (decide (3 < b.toNat % 16) || zeroM (tabOf (b.toNat / 16 == 1) d) || (largeM (tabOf (b.toNat / 16 == 1) d) && !(b.toNat / 16 == 1))) = false
            rw [h3, decide_eq_false (by omega)]
            rcases (show b.toNat / 16 = 0 ∨ b.toNat / 16 = 1 by omega) with h9 | h9
            · rw [h9]
              show (largeM (tab1 d) && true) = false
              rw [Bool.and_true]
              unfold largeM tab1
              rw [List.any_eq_false]
              intro x hx
              rw [List.mem_map] at hx
              obtain ⟨y, _, rfl⟩ := hx
              have := y.toNat_lt
              simp
              omega
            · rw [h9]
              simp
theorem huffs_again : ∀ (n : Nat) (d : List UInt8) (acc l : List HuffM), d.length ≤ n → huffsM n d acc = .ok l → ∃ k, l = acc ++ k ∧ k.flatMap huffB = d ∧ k.any huffBad = false ∧ (d ≠ [] → k ≠ [])
  | 0, d, acc, l, hn, h => by
    obtain rfl : d = [] := List.eq_nil_of_length_eq_zero (by omega)
    injection h with h
    exact ⟨[], by simp [h], rfl, rfl, fun h => absurd rfl h⟩
  | n + 1, [], acc, l, _, h => by
    injection h with h
    exact ⟨[], by simp [h], rfl, rfl, fun h => absurd rfl h⟩
  | n + 1, b :: d, acc, l, hn, h => by
    have hd : d.length ≤ n := by simpa using hn
    unfold huffsM at h
    split at h
    · cases h
    · rename_i h1
      split at h
      · cases h
      · rename_i h2
        split at h
        · cases h
        · rename_i h2b
          split at h
          · cases h
          · rename_i h3
            obtain ⟨k, e1, e2, e3, _⟩ := huffs_again n _ _ _ (by rw [List.length_drop, List.length_drop]; omega) h
            have h3 : huffOk ((d.take 16).map (·.toNat)) (((d.drop 16).take (sumM ((d.take 16).map (·.toNat)))).map (·.toNat)) = true := by simpa using h3
            refine ⟨⟨b.toNat / 16, b.toNat % 16, (d.take 16).map (·.toNat), ((d.drop 16).take (sumM ((d.take 16).map (·.toNat)))).map (·.toNat)⟩ :: k, by rw [e1, List.append_assoc]; rfl, ?_, ?_, fun _ => by simp⟩
            · rw [List.flatMap_cons, e2]
              unfold huffB
              rw [byte_mk, back_map, back_map, List.cons_append]
              congr 1
              rw [List.append_assoc, List.take_append_drop, List.take_append_drop]
            · rw [List.any_cons, e3, Bool.or_false]
              unfold huffBad
              show (decide (1 < b.toNat / 16) || decide (3 < b.toNat % 16) || !huffOk _ _) = false
              rw [h3, decide_eq_false (by omega), decide_eq_false (by omega)]
              rfl
theorem comps_again : ∀ (n : Nat) (l : List UInt8), l.length = 3 * n → (compsM l).flatMap compB = l ∧ (compsM l).length = n
  | 0, l, h => by
    obtain rfl : l = [] := List.eq_nil_of_length_eq_zero (by omega)
    exact ⟨rfl, rfl⟩
  | n + 1, l, h => by
    match l, h with
    | a :: b :: c :: l, h =>
      obtain ⟨e1, e2⟩ := comps_again n l (by simp at h; omega)
      refine ⟨?_, by simp [compsM, e2]⟩
      simp only [compsM, List.flatMap_cons, e1, compB, byte_mk, UInt8.ofNat_toNat]
      rfl
theorem parts_again : ∀ (n : Nat) (l : List UInt8), l.length = 2 * n → (partsM l).flatMap partW = l ∧ (partsM l).length = n
  | 0, l, h => by
    obtain rfl : l = [] := List.eq_nil_of_length_eq_zero (by omega)
    exact ⟨rfl, rfl⟩
  | n + 1, l, h => by
    match l, h with
    | a :: b :: l, h =>
      obtain ⟨e1, e2⟩ := parts_again n l (by simp at h; omega)
      refine ⟨?_, by simp [partsM, e2]⟩
      simp only [partsM, List.flatMap_cons, e1, partW, byte_mk, UInt8.ofNat_toNat]
      rfl
theorem zip_maps (l : List (Nat × PartM)) : (l.map (·.1)).zip (l.map (·.2)) = l := by
  induction l with
  | nil => rfl
  | cons a l ih => simp only [List.map_cons, List.zip_cons_cons, ih]
theorem getD_split (d : List UInt8) (k : Nat) (h : k < d.length) : d.drop k = d.getD k 0 :: d.drop (k + 1) := by
  rw [List.drop_eq_getElem_cons h, List.getD_eq_getElem?_getD, List.getElem?_eq_getElem h]
  rfl
theorem cont_again {c : Nat} {d : List UInt8} {s : SegM} (h : contM c d = .ok s) : s.code = c ∧ dataM s = .ok d := by
  unfold contM at h
  by_cases c1 : c = 219
  · rw [if_pos c1] at h
    split at h
    · cases h
    · rename_i hd
      split at h
      · cases h
      · rename_i l hl
        injection h with h
        obtain ⟨k, e1, e2, e3, e4⟩ := quants_again _ _ _ _ (Nat.le_refl _) hl
        rw [List.nil_append] at e1
        subst h e1
        refine ⟨rfl, ?_⟩
        unfold dataM
        rw [if_pos c1]
        show (if l.any quantBad then _ else if l = [] then _ else Res.ok (l.flatMap quantB)) = _
        rw [e3, if_neg (by decide), if_neg (e4 hd), e2]
  rw [if_neg c1] at h
  by_cases c2 : c = 196
  · rw [if_pos c2] at h
    split at h
    · cases h
    · rename_i hd
      split at h
      · cases h
      · rename_i l hl
        injection h with h
        obtain ⟨k, e1, e2, e3, e4⟩ := huffs_again _ _ _ _ (Nat.le_refl _) hl
        rw [List.nil_append] at e1
        subst h e1
        refine ⟨rfl, ?_⟩
        unfold dataM
        rw [if_neg c1, if_pos c2]
        show (if l.any huffBad then _ else if l = [] then _ else Res.ok (l.flatMap huffB)) = _
        rw [e3, if_neg (by decide), if_neg (e4 hd), e2]
  rw [if_neg c2] at h
  by_cases c3 : c = 192 ∨ c = 193
  · rw [if_pos c3] at h
    split at h
    · cases h
    · rename_i hl
      split at h
      · cases h
      · rename_i h8
        split at h
        · cases h
        · rename_i hf
          injection h with h
          subst h
          refine ⟨rfl, ?_⟩
          unfold dataM
          rw [if_neg c1, if_neg c2, if_pos c3]
          have hf : framedM (two (d.getD 3 0) (d.getD 4 0)) (two (d.getD 1 0) (d.getD 2 0)) (compsM (d.drop 6)) = 0 := by omega
          have hl6 : (d.drop 6).length = 3 * (d.getD 5 0).toNat := by rw [List.length_drop]; omega
          obtain ⟨e1, e2⟩ := comps_again _ _ hl6
          show (if framedM (two (d.getD 3 0) (d.getD 4 0)) (two (d.getD 1 0) (d.getD 2 0)) (compsM (d.drop 6)) ≠ 0 then _ else Res.ok (8 :: (num2 (two (d.getD 1 0) (d.getD 2 0)) ++ num2 (two (d.getD 3 0) (d.getD 4 0)) ++ [UInt8.ofNat (compsM (d.drop 6)).length] ++ (compsM (d.drop 6)).flatMap compB))) = _
          rw [if_neg (by omega), e1, e2, num2_two, num2_two, UInt8.ofNat_toNat]
          congr 1
          have h8 : d.getD 0 0 = 8 := by
            have : (d.getD 0 0).toNat = 8 := by unfold lead at h8; omega
            rw [← UInt8.ofNat_toNat (x := d.getD 0 0), this]
            rfl
          have g0 := getD_split d 0 (by omega)
          rw [List.drop_zero] at g0
          refine Eq.symm (g0.trans ?_)
          rw [h8]
          refine congrArg (List.cons 8) ((getD_split d 1 (by omega)).trans ?_)
          refine congrArg (List.cons _) ((getD_split d 2 (by omega)).trans ?_)
          refine congrArg (List.cons _) ((getD_split d 3 (by omega)).trans ?_)
          refine congrArg (List.cons _) ((getD_split d 4 (by omega)).trans ?_)
          exact congrArg (List.cons _) (getD_split d 5 (by omega))
  rw [if_neg c3] at h
  by_cases c4 : c = 218
  · rw [if_pos c4] at h
    split at h
    · cases h
    · rename_i hl
      split at h
      · cases h
      · rename_i hn
        split at h
        · cases h
        · rename_i hp
          injection h with h
          subst h
          refine ⟨rfl, ?_⟩
          unfold dataM
          rw [if_neg c1, if_neg c2, if_neg c3, if_pos c4]
          have hlen : d.length = 4 + 2 * lead d := Decidable.not_not.1 fun h9 => hl (.inr h9)
          have ht : d.drop (d.length - 3) = [0, 63, 0] := Decidable.not_not.1 fun h9 => hn (.inr (.inr h9))
          have hn2 : 1 ≤ lead d ∧ lead d ≤ 4 := ⟨by omega, by omega⟩
          have hw : ((d.drop 1).take (2 * lead d)).length = 2 * lead d := by rw [List.length_take, List.length_drop]; omega
          obtain ⟨e1, e2⟩ := parts_again _ _ hw
          have hd : d = d.getD 0 0 :: ((d.drop 1).take (2 * lead d) ++ [0, 63, 0]) := by
            have g0 := getD_split d 0 (by omega)
            rw [List.drop_zero] at g0
            have g1 : d.drop 1 = (d.drop 1).take (2 * lead d) ++ [0, 63, 0] := by
              conv => lhs; rw [← List.take_append_drop (2 * lead d) (d.drop 1)]
              rw [List.drop_drop, show 1 + 2 * lead d = d.length - 3 by omega, ht]
            rw [← g1]
            exact g0
          have hz := zip_maps (partsM ((d.drop 1).take (2 * lead d)))
          have hf : UInt8.ofNat (lead d) = d.getD 0 0 := by unfold lead; exact UInt8.ofNat_toNat
          generalize hW : (d.drop 1).take (2 * lead d) = W at hp e1 e2 hd hz
          generalize hP : partsM W = P at hp e1 e2 hz
          have hp2 : (P.map (·.2)).any (fun p => decide (3 < p.dc ∨ 3 < p.ac)) = false := by
            rw [List.any_map]
            simpa using hp
          show (if (P.map (·.2)).length < 1 ∨ 4 < (P.map (·.2)).length ∨ (P.map (·.1)).length ≠ (P.map (·.2)).length then _ else if (P.map (·.2)).any (fun p => decide (3 < p.dc ∨ 3 < p.ac)) then _ else Res.ok (UInt8.ofNat (P.map (·.2)).length :: (((P.map (·.1)).zip (P.map (·.2))).flatMap partW ++ [0, 63, 0]))) = _
          rw [List.length_map, List.length_map, e2, if_neg (by omega), hp2, if_neg (by decide), hz, e1, hf, ← hd]
  rw [if_neg c4] at h
  by_cases c5 : c = 221
  · rw [if_pos c5] at h
    split at h
    · cases h
    · rename_i hl
      injection h with h
      subst h
      refine ⟨rfl, ?_⟩
      unfold dataM
      rw [if_neg c1, if_neg c2, if_neg c3, if_neg c4, if_pos c5]
      match d, hl with
      | [a, b], _ =>
        show (if ((two a b : Nat) : Int) < 0 ∨ 65535 < ((two a b : Nat) : Int) then _ else Res.ok (num2 (two a b))) = _
        have h1 := a.toNat_lt
        have h2 := b.toNat_lt
        rw [if_neg (by unfold two; omega), num2_two]
      | [], hl => simp at hl
      | [_], hl => simp at hl
      | _ :: _ :: _ :: _, hl => simp at hl
  · rw [if_neg c5] at h
    injection h with h
    subst h
    refine ⟨rfl, ?_⟩
    unfold dataM
    rw [if_neg c1, if_neg c2, if_neg c3, if_neg c4, if_neg c5]
theorem readM_seg {f : List UInt8} {p : Int} {s : SegM} (h : readM f p = .seg s) : ∃ (n c L : Nat) (r : SegM), p = n ∧ n + 2 + L ≤ f.length ∧ 2 ≤ L ∧ (f.getD n 0).toNat = 255 ∧ (f.getD (n + 1) 0).toNat = c ∧ refM c = 0 ∧ mayM c = true ∧ two (f.getD (n + 2) 0) (f.getD (n + 3) 0) = L ∧ contM c ((f.drop (n + 4)).take (L - 2)) = .ok r ∧ s = { r with at_ := n, end_ := (n + 2 + L : Nat) } := by
  unfold readM at h
  by_cases h1 : p < 0 ∨ (f.length : Int) < p
  · rw [if_pos h1] at h; cases h
  rw [if_neg h1] at h
  obtain ⟨n, rfl⟩ : ∃ n : Nat, p = n := ⟨p.toNat, by omega⟩
  rw [Int.toNat_natCast] at h
  by_cases h2 : (n : Int) = f.length
  · rw [if_pos h2] at h; cases h
  rw [if_neg h2] at h
  by_cases h3 : (f.getD n 0).toNat ≠ 255
  · rw [if_pos h3] at h; cases h
  rw [if_neg h3] at h
  by_cases h4 : (n : Int) + 1 = f.length
  · rw [if_pos h4] at h; cases h
  rw [if_neg h4] at h
  by_cases h5 : refM (f.getD (n + 1) 0).toNat ≠ 0
  · rw [if_pos h5] at h; cases h
  rw [if_neg h5] at h
  by_cases h6 : mayM (f.getD (n + 1) 0).toNat = false
  · rw [if_pos h6] at h; cases h
  rw [if_neg h6] at h
  by_cases h7 : (f.length : Int) < (n : Int) + 4
  · rw [if_pos h7] at h; cases h
  rw [if_neg h7] at h
  by_cases h8 : two (f.getD (n + 2) 0) (f.getD (n + 3) 0) < 2
  · rw [if_pos h8] at h; cases h
  rw [if_neg h8] at h
  by_cases h9 : (f.length : Int) < (n : Int) + 2 + (two (f.getD (n + 2) 0) (f.getD (n + 3) 0) : Nat)
  · rw [if_pos h9] at h; cases h
  rw [if_neg h9] at h
  split at h
  · cases h
  · rename_i r hr
    injection h with h
    exact ⟨n, _, _, r, rfl, by omega, by omega, by omega, rfl, by omega, by simpa using h6, rfl, hr, by rw [← h]; rfl⟩
/-- WHAT IS READ IS WRITTEN AS IT WAS -/
theorem read_again {f : List UInt8} {p : Int} {s : SegM} (h : readM f p = .seg s) : ∃ n e : Nat, p = n ∧ s.at_ = n ∧ s.end_ = e ∧ n + 4 ≤ e ∧ e ≤ f.length ∧ textM s = .ok ((f.drop n).take (e - n)) := by
  obtain ⟨n, c, L, r, rfl, h2, h3, h4, h5, h6, h7, h8, h9, rfl⟩ := readM_seg h
  obtain ⟨h10, h11⟩ := cont_again h9
  refine ⟨n, n + 2 + L, rfl, rfl, rfl, by omega, by omega, ?_⟩
  have hL : L ≤ 65535 := by
    rw [← h8]
    have := (f.getD (n + 2) 0).toNat_lt
    have := (f.getD (n + 3) 0).toNat_lt
    unfold two
    omega
  have hlen : ((f.drop (n + 4)).take (L - 2)).length = L - 2 := by rw [List.length_take, List.length_drop]; omega
  have ht := text_of (m := { r with at_ := n, end_ := (n + 2 + L : Nat) }) (d := (f.drop (n + 4)).take (L - 2)) (by show refM r.code = 0; rw [h10]; exact h6) (by show mayM r.code = true; rw [h10]; exact h7) h11 (by rw [hlen]; omega)
  rw [ht, hlen]
  show Res.ok (255 :: UInt8.ofNat r.code :: (num2 (L - 2 + 2) ++ (f.drop (n + 4)).take (L - 2))) = _
  rw [h10, ← h5, UInt8.ofNat_toNat, show L - 2 + 2 = L by omega, ← h8, num2_two]
  have e0 : f.getD n 0 = 255 := by
    rw [← UInt8.ofNat_toNat (x := f.getD n 0), h4]
    rfl
  have g0 : f.drop n = 255 :: f.getD (n + 1) 0 :: f.getD (n + 2) 0 :: f.getD (n + 3) 0 :: f.drop (n + 4) := by
    rw [getD_split f n (by omega), e0]
    refine congrArg (List.cons _) ((getD_split f (n + 1) (by omega)).trans ?_)
    refine congrArg (List.cons _) ((getD_split f (n + 2) (by omega)).trans ?_)
    exact congrArg (List.cons _) (getD_split f (n + 3) (by omega))
  rw [h8, g0, show n + 2 + L - n = (L - 2) + 1 + 1 + 1 + 1 by omega]
  rfl
end Go.Proofs.YtjfgfoeenajneaaGreatDoor.Sg
