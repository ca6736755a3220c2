/-
  Requests and replies, read. Printed by wip/tools/rd2.py (own work).
-/
import Derived.Test.YtdmcbbeebjcagaaV3
import Derived.Test.YtdmcbbeebjcagaaProg
set_option linter.all false
set_option linter.unusedSectionVars false
namespace Go.Vas
open Go Go.Vab
variable {P : Program} {tt : Nat → Option TI}

theorem rdId {t e : TypeId} (hu : P.underlying t = some (.array 16 e)) (he : P.underlying e = some (.int .u8)) : Reads P tt t (.arr 16 (.int .u8)) eId := by
  intro h n a ht hr
  obtain ⟨g, rfl⟩ := rdArr hu he h n a ht hr
  exact ⟨_, arr_id g⟩
theorem rdEi {t : TypeId} {T : Ty} (hu : P.underlying t = some (.int .i64)) : Reads P tt t T ei := by
  intro h n a _ hr
  cases n with
  | zero => exact hr.elim
  | succ n =>
    simp only [Rd, hu] at hr
    obtain ⟨x, rfl, _⟩ := hr
    exact ⟨x, rfl⟩
/-- Slices of elements that are known one by one. -/
theorem rdN {t e : TypeId} {h : Heap} {n : Nat} {a : AV} {T : Ty} (hu : P.underlying t = some (.slice e)) (hb : 0 < P.bytesOf e) (hte : ∀ el, tt e = some el → el.ty = T) (hT : (∃ ts, T = .struct ts) ∨ ∃ m u, T = .arr m u) (hr : Rd P tt h n t a) :
    ∃ (m : Nat) (us : List AV), Row T h a us ∧ ∀ x ∈ us, hasTy x T = true ∧ Rd P tt h m e x := by
  cases n with
  | zero => exact hr.elim
  | succ n =>
    simp only [Rd, hu] at hr
    rcases hr with rfl | ⟨i, el, row, mo, len, cap, rfl, h2, h3, h4, h5, h6, hw, h7⟩
    · refine ⟨0, [], ⟨?_, rfl, by simp⟩, fun x hx => by cases hx⟩
      rcases hT with ⟨ts, rfl⟩ | ⟨m, u, rfl⟩ <;> simp [mElems]
    · have e1 := hte _ h2
      rw [e1] at h4 ⊢
      have hrow : ∃ us, row = .node us ∧ us.length = cap ∧ ∀ x ∈ us, hasTy x T = true := by
        rcases hT with ⟨ts, rfl⟩ | ⟨m, u, rfl⟩ <;>
        · cases row <;> simp only [hasTy, Bool.false_eq_true] at h4
          rename_i us
          simp only [Bool.and_eq_true, decide_eq_true_eq, hasTyAll_iff] at h4
          exact ⟨us, rfl, h4.1, h4.2⟩
      obtain ⟨us, rfl, hl, hty⟩ := hrow
      have hlen : (us.take len).length = len := by rw [List.length_take]; omega
      refine ⟨n, us.take len, ⟨?_, ?_, ?_⟩, fun x hx => ?_⟩
      · rw [mElems_row]
        have : blkAt h i 0 = some ⟨.node us, 0, mo⟩ := by unfold blkAt; rw [h3]; rfl
        rw [this, bnd_some, get_nil, bnd_some]
        simp only [AV.cut, Nat.zero_add]
        rw [if_pos (by omega), List.drop_zero]
      · rw [hlen]; exact ⟨rfl, h5, rfl⟩
      · rw [hlen]
        have : len * 1 ≤ len * P.bytesOf e := Nat.mul_le_mul_left _ hb
        unfold reachBytes at hw
        omega
      · have hx2 := List.mem_of_mem_take hx
        obtain ⟨j, hj⟩ := List.getElem?_of_mem hx2
        have hlt := (List.getElem?_eq_some_iff.1 hj).1
        obtain ⟨y, hy, hd⟩ := h7 j (by omega)
        simp only [get_node, hj] at hy
        simp at hy
        subst hy
        exact ⟨hty x hx2, hd⟩
def ReadsPts (P : Program) (tt : Nat → Option TI) (t : TypeId) : Prop := ∀ (h : Heap) (n : Nat) (a : AV), Rd P tt h n t a → ∃ l, Pts h a l
theorem rdPts {t e : TypeId} (hu : P.underlying t = some (.slice e)) (hb : 0 < P.bytesOf e) (hte : ∀ el, tt e = some el → el.ty = tPt) (hY : Reads P tt e tPt pt) : ReadsPts P tt t := by
  intro h n a hr
  obtain ⟨m, us, h1, h2⟩ := rdN hu hb hte (.inr ⟨_, _, rfl⟩) hr
  obtain ⟨l, rfl⟩ := maps_of (enc := pt) fun x hx => hY h m x (h2 x hx).1 (h2 x hx).2
  exact ⟨l, h1⟩

def ReadsPrf (P : Program) (tt : Nat → Option TI) (t : TypeId) : Prop := ∀ (h : Heap) (n : Nat) (a : AV), hasTy a tProof = true → Rd P tt h n t a → ∃ (p : Prf) (v : AV), a = ePf p v ∧ Pts h v p.s
theorem rdPrf {t p s : TypeId} (hf : ftys P t = some [p, s]) (hp : Reads P tt p tPt pt) (hs : ReadsPts P tt s) : ReadsPrf P tt t := by
  intro h n a ht hr
  obtain ⟨vs, m, rfl, hv⟩ := rdS hf hr
  obtain ⟨x0, vs, rfl, t0, ht⟩ := hasTys_c (by simpa using ht)
  obtain ⟨x1, vs, rfl, t1, ht⟩ := hasTys_c ht
  obtain rfl := hasTys_n ht
  obtain ⟨_, e0, r0⟩ := hv 0 _ rfl
  obtain ⟨_, e1, r1⟩ := hv 1 _ rfl
  cases e0; cases e1
  obtain ⟨y0, rfl⟩ := hp _ _ _ t0 r0
  obtain ⟨y1, k1⟩ := hs _ _ _ r1
  exact ⟨⟨y0, y1⟩, x1, rfl, k1⟩
def ReadsPas (P : Program) (tt : Nat → Option TI) (t : TypeId) : Prop := ∀ (h : Heap) (n : Nat) (a : AV), hasTy a tPass = true → Rd P tt h n t a → ∃ (p : Pas) (v : AV), a = ePa p v ∧ Pts h v p.prf.s
theorem rdPas {t p q : TypeId} (hf : ftys P t = some [p, p, p, q]) (hp : Reads P tt p tPt pt) (hq : ReadsPrf P tt q) : ReadsPas P tt t := by
  intro h n a ht hr
  obtain ⟨vs, m, rfl, hv⟩ := rdS hf hr
  obtain ⟨x0, vs, rfl, t0, ht⟩ := hasTys_c (by simpa using ht)
  obtain ⟨x1, vs, rfl, t1, ht⟩ := hasTys_c ht
  obtain ⟨x2, vs, rfl, t2, ht⟩ := hasTys_c ht
  obtain ⟨x3, vs, rfl, t3, ht⟩ := hasTys_c ht
  obtain rfl := hasTys_n ht
  obtain ⟨_, e0, r0⟩ := hv 0 _ rfl
  obtain ⟨_, e1, r1⟩ := hv 1 _ rfl
  obtain ⟨_, e2, r2⟩ := hv 2 _ rfl
  obtain ⟨_, e3, r3⟩ := hv 3 _ rfl
  cases e0; cases e1; cases e2; cases e3
  obtain ⟨y0, rfl⟩ := hp _ _ _ t0 r0
  obtain ⟨y1, rfl⟩ := hp _ _ _ t1 r1
  obtain ⟨y2, rfl⟩ := hp _ _ _ t2 r2
  obtain ⟨y3, v3_0, rfl, k3⟩ := hq _ _ _ t3 r3
  exact ⟨⟨y0, y1, y2, y3⟩, v3_0, rfl, k3⟩
def ReadsTie (P : Program) (tt : Nat → Option TI) (t : TypeId) : Prop := ∀ (h : Heap) (n : Nat) (a : AV), hasTy a tTied = true → Rd P tt h n t a → ∃ (p : Tie) (v : AV), a = eTi p v ∧ Pts h v p.prf.s
theorem rdTie {t p q : TypeId} (hf : ftys P t = some [p, q]) (hp : Reads P tt p tPt pt) (hq : ReadsPrf P tt q) : ReadsTie P tt t := by
  intro h n a ht hr
  obtain ⟨vs, m, rfl, hv⟩ := rdS hf hr
  obtain ⟨x0, vs, rfl, t0, ht⟩ := hasTys_c (by simpa using ht)
  obtain ⟨x1, vs, rfl, t1, ht⟩ := hasTys_c ht
  obtain rfl := hasTys_n ht
  obtain ⟨_, e0, r0⟩ := hv 0 _ rfl
  obtain ⟨_, e1, r1⟩ := hv 1 _ rfl
  cases e0; cases e1
  obtain ⟨y0, rfl⟩ := hp _ _ _ t0 r0
  obtain ⟨y1, v1_0, rfl, k1⟩ := hq _ _ _ t1 r1
  exact ⟨⟨y0, y1⟩, v1_0, rfl, k1⟩
def ReadsShw (P : Program) (tt : Nat → Option TI) (t : TypeId) : Prop := ∀ (h : Heap) (n : Nat) (a : AV), hasTy a tShown = true → Rd P tt h n t a → ∃ (p : Shw) (v w : AV), a = eSh p v w ∧ Pts h v p.pas.prf.s ∧ Pts h w p.tie.prf.s
theorem rdShw {t p q : TypeId} (hf : ftys P t = some [p, q]) (hp : ReadsPas P tt p) (hq : ReadsTie P tt q) : ReadsShw P tt t := by
  intro h n a ht hr
  obtain ⟨vs, m, rfl, hv⟩ := rdS hf hr
  obtain ⟨x0, vs, rfl, t0, ht⟩ := hasTys_c (by simpa using ht)
  obtain ⟨x1, vs, rfl, t1, ht⟩ := hasTys_c ht
  obtain rfl := hasTys_n ht
  obtain ⟨_, e0, r0⟩ := hv 0 _ rfl
  obtain ⟨_, e1, r1⟩ := hv 1 _ rfl
  cases e0; cases e1
  obtain ⟨y0, v0_0, rfl, k0⟩ := hp _ _ _ t0 r0
  obtain ⟨y1, v1_0, rfl, k1⟩ := hq _ _ _ t1 r1
  exact ⟨⟨y0, y1⟩, v0_0, v1_0, rfl, k0, k1⟩
def ReadsVou (P : Program) (tt : Nat → Option TI) (t : TypeId) : Prop := ∀ (h : Heap) (n : Nat) (a : AV), hasTy a tVoucher = true → Rd P tt h n t a → ∃ (p : Vou) (v : AV), a = eVo p v ∧ Pts h v p.prf.s
theorem rdVou {t p q : TypeId} (hf : ftys P t = some [p, p, p, p, p, q]) (hp : Reads P tt p tPt pt) (hq : ReadsPrf P tt q) : ReadsVou P tt t := by
  intro h n a ht hr
  obtain ⟨vs, m, rfl, hv⟩ := rdS hf hr
  obtain ⟨x0, vs, rfl, t0, ht⟩ := hasTys_c (by simpa using ht)
  obtain ⟨x1, vs, rfl, t1, ht⟩ := hasTys_c ht
  obtain ⟨x2, vs, rfl, t2, ht⟩ := hasTys_c ht
  obtain ⟨x3, vs, rfl, t3, ht⟩ := hasTys_c ht
  obtain ⟨x4, vs, rfl, t4, ht⟩ := hasTys_c ht
  obtain ⟨x5, vs, rfl, t5, ht⟩ := hasTys_c ht
  obtain rfl := hasTys_n ht
  obtain ⟨_, e0, r0⟩ := hv 0 _ rfl
  obtain ⟨_, e1, r1⟩ := hv 1 _ rfl
  obtain ⟨_, e2, r2⟩ := hv 2 _ rfl
  obtain ⟨_, e3, r3⟩ := hv 3 _ rfl
  obtain ⟨_, e4, r4⟩ := hv 4 _ rfl
  obtain ⟨_, e5, r5⟩ := hv 5 _ rfl
  cases e0; cases e1; cases e2; cases e3; cases e4; cases e5
  obtain ⟨y0, rfl⟩ := hp _ _ _ t0 r0
  obtain ⟨y1, rfl⟩ := hp _ _ _ t1 r1
  obtain ⟨y2, rfl⟩ := hp _ _ _ t2 r2
  obtain ⟨y3, rfl⟩ := hp _ _ _ t3 r3
  obtain ⟨y4, rfl⟩ := hp _ _ _ t4 r4
  obtain ⟨y5, v5_0, rfl, k5⟩ := hq _ _ _ t5 r5
  exact ⟨⟨y0, y1, y2, y3, y4, y5⟩, v5_0, rfl, k5⟩
def ReadsAct (P : Program) (tt : Nat → Option TI) (t : TypeId) : Prop := ∀ (h : Heap) (n : Nat) (a : AV), hasTy a tAction = true → Rd P tt h n t a → ∃ (x : Actn) (vt vp : AV), a = eAct x vt vp ∧ ActR h x vt vp
def ReadsSt (P : Program) (tt : Nat → Option TI) (t : TypeId) : Prop := ∀ (h : Heap) (n : Nat) (a : AV), hasTy a tState = true → Rd P tt h n t a → ∃ (x : Stt) (vt vp vs vi va vb : AV), a = eSt x vt vp vs vi va vb ∧ StR h x vt vp vs vi va vb
def ReadsReq (P : Program) (tt : Nat → Option TI) (t : TypeId) : Prop := ∀ (h : Heap) (n : Nat) (a : AV), hasTy a tRequest = true → Rd P tt h n t a → ∃ (r : Req) (vt vp at_ ap s1 s2 s3 : AV), a = eReq r vt vp at_ ap s1 s2 s3 ∧ ReqR h r vt vp at_ ap s1 s2 s3
theorem rdReq {t k i w pb b c ci ac s v : TypeId} (hf : ftys P t = some [k, i, w, pb, b, c, ci, b, ac, w, s, v]) (hk : P.underlying k = some (.int .u8)) (hi : Reads P tt i (.arr 16 (.int .u8)) eId) (hw : P.underlying w = some (.int .u32)) (hpub : Reads P tt pb tCipher eCi) (hb : ReadsB P tt b) (hc : Reads P tt c tAccess eAcc) (hci : Reads P tt ci tCipher eCi) (hact : ReadsAct P tt ac) (hs : ReadsShw P tt s) (hvv : ReadsVou P tt v) : ReadsReq P tt t := by
  intro h n a ht hr
  obtain ⟨vs, m, rfl, hv⟩ := rdS hf hr
  obtain ⟨x0, vs, rfl, t0, ht⟩ := hasTys_c (by simpa using ht)
  obtain ⟨x1, vs, rfl, t1, ht⟩ := hasTys_c ht
  obtain ⟨x2, vs, rfl, t2, ht⟩ := hasTys_c ht
  obtain ⟨x3, vs, rfl, t3, ht⟩ := hasTys_c ht
  obtain ⟨x4, vs, rfl, t4, ht⟩ := hasTys_c ht
  obtain ⟨x5, vs, rfl, t5, ht⟩ := hasTys_c ht
  obtain ⟨x6, vs, rfl, t6, ht⟩ := hasTys_c ht
  obtain ⟨x7, vs, rfl, t7, ht⟩ := hasTys_c ht
  obtain ⟨x8, vs, rfl, t8, ht⟩ := hasTys_c ht
  obtain ⟨x9, vs, rfl, t9, ht⟩ := hasTys_c ht
  obtain ⟨x10, vs, rfl, t10, ht⟩ := hasTys_c ht
  obtain ⟨x11, vs, rfl, t11, ht⟩ := hasTys_c ht
  obtain rfl := hasTys_n ht
  obtain ⟨_, e0, r0⟩ := hv 0 _ rfl
  obtain ⟨_, e1, r1⟩ := hv 1 _ rfl
  obtain ⟨_, e2, r2⟩ := hv 2 _ rfl
  obtain ⟨_, e3, r3⟩ := hv 3 _ rfl
  obtain ⟨_, e4, r4⟩ := hv 4 _ rfl
  obtain ⟨_, e5, r5⟩ := hv 5 _ rfl
  obtain ⟨_, e6, r6⟩ := hv 6 _ rfl
  obtain ⟨_, e7, r7⟩ := hv 7 _ rfl
  obtain ⟨_, e8, r8⟩ := hv 8 _ rfl
  obtain ⟨_, e9, r9⟩ := hv 9 _ rfl
  obtain ⟨_, e10, r10⟩ := hv 10 _ rfl
  obtain ⟨_, e11, r11⟩ := hv 11 _ rfl
  cases e0; cases e1; cases e2; cases e3; cases e4; cases e5; cases e6; cases e7; cases e8; cases e9; cases e10; cases e11
  obtain ⟨y0, rfl⟩ := rdI8 hk _ _ _ t0 r0
  obtain ⟨y1, rfl⟩ := hi _ _ _ t1 r1
  obtain ⟨y2, rfl⟩ := rdI32 hw _ _ _ t2 r2
  obtain ⟨y3, rfl⟩ := hpub _ _ _ t3 r3
  obtain ⟨y4, k4⟩ := hb _ _ _ r4
  obtain ⟨y5, rfl⟩ := hc _ _ _ t5 r5
  obtain ⟨y6, rfl⟩ := hci _ _ _ t6 r6
  obtain ⟨y7, k7⟩ := hb _ _ _ r7
  obtain ⟨y8, v8_0, v8_1, rfl, k8⟩ := hact _ _ _ t8 r8
  obtain ⟨y9, rfl⟩ := rdI32 hw _ _ _ t9 r9
  obtain ⟨y10, v10_0, v10_1, rfl, k10, k10b⟩ := hs _ _ _ t10 r10
  obtain ⟨y11, v11_0, rfl, k11⟩ := hvv _ _ _ t11 r11
  exact ⟨⟨y0, y1, y2, y3, y4, y5, y6, y7, y8, y9, y10, y11⟩, x4, x7, v8_0, v8_1, v10_0, v10_1, v11_0, rfl, ⟨k4, k7, k8, k10, k10b, k11⟩⟩
theorem rdDels {t e b c : TypeId} (hu : P.underlying t = some (.slice e)) (hb : 0 < P.bytesOf e) (hte : ∀ el, tt e = some el → el.ty = tDelta) (hf : ftys P e = some [b, c]) (hbs : ReadsB P tt b) (hc : Reads P tt c tCipher eCi) {h : Heap} {n : Nat} {a : AV} (hr : Rd P tt h n t a) : ∃ ds, Dels h a ds := by
  obtain ⟨m, us, h1, h2⟩ := rdN hu hb hte (.inl ⟨_, tDelta_x⟩) hr
  have h3 : ∀ x ∈ us, ∃ (d : Del) (v : AV), x = eDel v d.sign ∧ BytL h v d.entry := by
    intro x hx
    obtain ⟨ht, hr⟩ := h2 x hx
    obtain ⟨vs, m, rfl, hv⟩ := rdS hf hr
    obtain ⟨x0, vs, rfl, t0, ht⟩ := hasTys_c (by simpa using ht)
    obtain ⟨x1, vs, rfl, t1, ht⟩ := hasTys_c ht
    obtain rfl := hasTys_n ht
    obtain ⟨_, e0, r0⟩ := hv 0 _ rfl
    obtain ⟨_, e1, r1⟩ := hv 1 _ rfl
    cases e0; cases e1
    obtain ⟨y0, k0⟩ := hbs _ _ _ r0
    obtain ⟨y1, rfl⟩ := hc _ _ _ t1 r1
    exact ⟨⟨y0, y1⟩, x0, rfl, k0⟩
  have h4 : ∀ us : List AV, (∀ x ∈ us, ∃ (d : Del) (v : AV), x = eDel v d.sign ∧ BytL h v d.entry) → ∃ ds, DelE h us ds := by
    intro us
    induction us with
    | nil => exact fun _ => ⟨[], rfl, fun i d hd => by simp at hd⟩
    | cons x us ih =>
      intro hh
      obtain ⟨d, v, rfl, hd⟩ := hh x (List.mem_cons_self ..)
      obtain ⟨ds, e1, e2⟩ := ih fun y hy => hh y (List.mem_cons_of_mem _ hy)
      refine ⟨d :: ds, by simp [e1], fun i d' hd' => ?_⟩
      cases i with
      | zero => simp at hd'; subst hd'; exact ⟨v, rfl, hd⟩
      | succ i => exact e2 i d' (by simpa using hd')
  obtain ⟨ds, hd⟩ := h4 us h3
  exact ⟨ds, us, h1, hd⟩
def ReadsDels (P : Program) (tt : Nat → Option TI) (t : TypeId) : Prop := ∀ (h : Heap) (n : Nat) (a : AV), Rd P tt h n t a → ∃ l, Dels h a l

def ReadsGra (P : Program) (tt : Nat → Option TI) (t : TypeId) : Prop := ∀ (h : Heap) (n : Nat) (a : AV), hasTy a tGrant = true → Rd P tt h n t a → ∃ (p : Gra) (v : AV), a = eGr p v ∧ Pts h v p.prf.s
theorem rdGra {t p q : TypeId} (hf : ftys P t = some [p, q]) (hp : Reads P tt p tCipher eCi) (hq : ReadsPrf P tt q) : ReadsGra P tt t := by
  intro h n a ht hr
  obtain ⟨vs, m, rfl, hv⟩ := rdS hf hr
  obtain ⟨x0, vs, rfl, t0, ht⟩ := hasTys_c (by simpa using ht)
  obtain ⟨x1, vs, rfl, t1, ht⟩ := hasTys_c ht
  obtain rfl := hasTys_n ht
  obtain ⟨_, e0, r0⟩ := hv 0 _ rfl
  obtain ⟨_, e1, r1⟩ := hv 1 _ rfl
  cases e0; cases e1
  obtain ⟨y0, rfl⟩ := hp _ _ _ t0 r0
  obtain ⟨y1, v1_0, rfl, k1⟩ := hq _ _ _ t1 r1
  exact ⟨⟨y0, y1⟩, v1_0, rfl, k1⟩
def ReadsRep (P : Program) (tt : Nat → Option TI) (t : TypeId) : Prop := ∀ (h : Heap) (n : Nat) (a : AV), hasTy a tReply = true → Rd P tt h n t a → ∃ (r : Rep) (vt vp vs vi va vb vd sg : AV), a = eRep r vt vp vs vi va vb vd sg ∧ RepR h r vt vp vs vi va vb vd sg
theorem rdRep {t e k s d g : TypeId} (hf : ftys P t = some [e, k, s, d, g]) (he : P.underlying e = some (.int .i64)) (hk : P.underlying k = some (.int .u8)) (hs : ReadsSt P tt s) (hd : ReadsDels P tt d) (hg : ReadsGra P tt g) : ReadsRep P tt t := by
  intro h n a ht hr
  obtain ⟨vs, m, rfl, hv⟩ := rdS hf hr
  obtain ⟨x0, vs, rfl, t0, ht⟩ := hasTys_c (by simpa using ht)
  obtain ⟨x1, vs, rfl, t1, ht⟩ := hasTys_c ht
  obtain ⟨x2, vs, rfl, t2, ht⟩ := hasTys_c ht
  obtain ⟨x3, vs, rfl, t3, ht⟩ := hasTys_c ht
  obtain ⟨x4, vs, rfl, t4, ht⟩ := hasTys_c ht
  obtain rfl := hasTys_n ht
  obtain ⟨_, e0, r0⟩ := hv 0 _ rfl
  obtain ⟨_, e1, r1⟩ := hv 1 _ rfl
  obtain ⟨_, e2, r2⟩ := hv 2 _ rfl
  obtain ⟨_, e3, r3⟩ := hv 3 _ rfl
  obtain ⟨_, e4, r4⟩ := hv 4 _ rfl
  cases e0; cases e1; cases e2; cases e3; cases e4
  obtain ⟨y0, rfl⟩ := rdEi he _ _ _ t0 r0
  obtain ⟨y1, rfl⟩ := rdI8 hk _ _ _ t1 r1
  obtain ⟨y2, v2_0, v2_1, v2_2, v2_3, v2_4, v2_5, rfl, k2⟩ := hs _ _ _ t2 r2
  obtain ⟨y3, k3⟩ := hd _ _ _ r3
  obtain ⟨y4, v4_0, rfl, k4⟩ := hg _ _ _ t4 r4
  exact ⟨⟨y0, y1, y2, y3, y4⟩, v2_0, v2_1, v2_2, v2_3, v2_4, v2_5, x3, v4_0, rfl, ⟨k2, k3, k4⟩⟩

end Go.Vas

/- The types of a seat. Printed by wip/tools/gen2.py (own work). -/
namespace Go.Vab
open Go Go.Proofs
def ttl : List (Nat × TI) := [
  (3, ⟨(.int .i64), 8, (nat 0), none, some .i64, false, none, false⟩),
  (4, ⟨.cell, 1, (.bool false), none, none, false, none, true⟩),
  (5, ⟨(.int .u8), 1, (u8 0#8), none, some .u8, false, none, false⟩),
  (9, ⟨.cell, 16, (.str .empty), none, none, true, none, false⟩),
  (22, ⟨(.int .u32), 4, (u32 0#32), none, some .u32, false, none, false⟩),
  (24, ⟨(.arr 32 (.int .u8)), 32, (arr 32 fun _ => 0#8), none, none, false, none, false⟩),
  (26, ⟨tPublic, 64, (.node [(arr 32 fun _ => 0#8), (arr 32 fun _ => 0#8)]), none, none, false, none, false⟩),
  (27, ⟨.cell, 24, .nilslice, some 5, none, false, none, false⟩),
  (28, ⟨(.int .u8), 1, (u8 0#8), none, some .u8, false, none, false⟩),
  (29, ⟨(.int .u8), 1, (u8 0#8), none, some .u8, false, none, false⟩),
  (31, ⟨tAccess, 3, (.node [(u8 0#8), (u8 0#8), (u8 0#8)]), none, none, false, none, false⟩),
  (32, ⟨.cell, 24, .nilslice, some 87, none, false, none, false⟩),
  (33, ⟨.cell, 24, .nilslice, some 90, none, false, none, false⟩),
  (34, ⟨.cell, 24, .nilslice, some 93, none, false, none, false⟩),
  (35, ⟨.cell, 24, .nilslice, some 96, none, false, none, false⟩),
  (37, ⟨tState, 224, (.node [(u32 0#32), (.node [(arr 32 fun _ => 0#8), (arr 32 fun _ => 0#8)]), .nilslice, (.node [(u8 0#8), (u8 0#8), (u8 0#8)]), .nilslice, .nilslice, .nilslice, .nilslice, .nilslice]), none, none, false, none, false⟩),
  (38, ⟨(.int .u8), 1, (u8 0#8), none, some .u8, false, none, false⟩),
  (40, ⟨tCipher, 64, (.node [(arr 32 fun _ => 0#8), (arr 32 fun _ => 0#8)]), none, none, false, none, false⟩),
  (42, ⟨tAction, 160, (.node [(u32 0#32), (u8 0#8), (.node [(arr 32 fun _ => 0#8), (arr 32 fun _ => 0#8)]), (arr 32 fun _ => 0#8), (u8 0#8), .nilslice, (.node [(u8 0#8), (u8 0#8), (u8 0#8)]), .nilslice]), none, none, false, none, false⟩),
  (49, ⟨(.int .u8), 1, (u8 0#8), none, some .u8, false, none, false⟩),
  (51, ⟨(.arr 16 (.int .u8)), 16, (arr 16 fun _ => 0#8), none, none, false, none, false⟩),
  (52, ⟨(.arr 32 (.int .u8)), 32, (arr 32 fun _ => 0#8), none, none, false, none, false⟩),
  (53, ⟨.cell, 24, .nilslice, some 52, none, false, none, false⟩),
  (55, ⟨tProof, 56, (.node [(arr 32 fun _ => 0#8), .nilslice]), none, none, false, none, false⟩),
  (57, ⟨tPass, 152, (.node [(arr 32 fun _ => 0#8), (arr 32 fun _ => 0#8), (arr 32 fun _ => 0#8), (.node [(arr 32 fun _ => 0#8), .nilslice])]), none, none, false, none, false⟩),
  (59, ⟨tTied, 88, (.node [(arr 32 fun _ => 0#8), (.node [(arr 32 fun _ => 0#8), .nilslice])]), none, none, false, none, false⟩),
  (61, ⟨tShown, 240, (.node [(.node [(arr 32 fun _ => 0#8), (arr 32 fun _ => 0#8), (arr 32 fun _ => 0#8), (.node [(arr 32 fun _ => 0#8), .nilslice])]), (.node [(arr 32 fun _ => 0#8), (.node [(arr 32 fun _ => 0#8), .nilslice])])]), none, none, false, none, false⟩),
  (63, ⟨tVoucher, 216, (.node [(arr 32 fun _ => 0#8), (arr 32 fun _ => 0#8), (arr 32 fun _ => 0#8), (arr 32 fun _ => 0#8), (arr 32 fun _ => 0#8), (.node [(arr 32 fun _ => 0#8), .nilslice])]), none, none, false, none, false⟩),
  (65, ⟨tRequest, 832, (.node [(u8 0#8), (arr 16 fun _ => 0#8), (u32 0#32), (.node [(arr 32 fun _ => 0#8), (arr 32 fun _ => 0#8)]), .nilslice, (.node [(u8 0#8), (u8 0#8), (u8 0#8)]), (.node [(arr 32 fun _ => 0#8), (arr 32 fun _ => 0#8)]), .nilslice, (.node [(u32 0#32), (u8 0#8), (.node [(arr 32 fun _ => 0#8), (arr 32 fun _ => 0#8)]), (arr 32 fun _ => 0#8), (u8 0#8), .nilslice, (.node [(u8 0#8), (u8 0#8), (u8 0#8)]), .nilslice]), (u32 0#32), (.node [(.node [(arr 32 fun _ => 0#8), (arr 32 fun _ => 0#8), (arr 32 fun _ => 0#8), (.node [(arr 32 fun _ => 0#8), .nilslice])]), (.node [(arr 32 fun _ => 0#8), (.node [(arr 32 fun _ => 0#8), .nilslice])])]), (.node [(arr 32 fun _ => 0#8), (arr 32 fun _ => 0#8), (arr 32 fun _ => 0#8), (arr 32 fun _ => 0#8), (arr 32 fun _ => 0#8), (.node [(arr 32 fun _ => 0#8), .nilslice])])]), none, none, false, none, false⟩),
  (66, ⟨(.int .i64), 8, (nat 0), none, some .i64, false, none, false⟩),
  (67, ⟨.cell, 24, .nilslice, some 100, none, false, none, false⟩),
  (69, ⟨tToken, 64, (.node [(arr 32 fun _ => 0#8), (arr 32 fun _ => 0#8)]), none, none, false, none, false⟩),
  (71, ⟨tGrant, 120, (.node [(.node [(arr 32 fun _ => 0#8), (arr 32 fun _ => 0#8)]), (.node [(arr 32 fun _ => 0#8), .nilslice])]), none, none, false, none, false⟩),
  (73, ⟨tReply, 384, (.node [(nat 0), (u8 0#8), (.node [(u32 0#32), (.node [(arr 32 fun _ => 0#8), (arr 32 fun _ => 0#8)]), .nilslice, (.node [(u8 0#8), (u8 0#8), (u8 0#8)]), .nilslice, .nilslice, .nilslice, .nilslice, .nilslice]), .nilslice, (.node [(.node [(arr 32 fun _ => 0#8), (arr 32 fun _ => 0#8)]), (.node [(arr 32 fun _ => 0#8), .nilslice])])]), none, none, false, none, false⟩),
  (87, ⟨tSeat, 72, (.node [(.node [(arr 32 fun _ => 0#8), (arr 32 fun _ => 0#8)]), (u8 0#8), (u32 0#32)]), none, none, false, none, false⟩),
  (90, ⟨tInvite, 129, (.node [(.node [(arr 32 fun _ => 0#8), (arr 32 fun _ => 0#8)]), (u8 0#8), (.node [(arr 32 fun _ => 0#8), (arr 32 fun _ => 0#8)])]), none, none, false, none, false⟩),
  (93, ⟨tAsk, 68, (.node [(.node [(arr 32 fun _ => 0#8), (arr 32 fun _ => 0#8)]), (u32 0#32)]), none, none, false, none, false⟩),
  (96, ⟨tBan, 128, (.node [(.node [(arr 32 fun _ => 0#8), (arr 32 fun _ => 0#8)]), (.node [(arr 32 fun _ => 0#8), (arr 32 fun _ => 0#8)])]), none, none, false, none, false⟩),
  (98, ⟨tSignature, 64, (.node [(arr 32 fun _ => 0#8), (arr 32 fun _ => 0#8)]), none, none, false, none, false⟩),
  (100, ⟨tDelta, 88, (.node [.nilslice, (.node [(arr 32 fun _ => 0#8), (arr 32 fun _ => 0#8)])]), none, none, false, none, false⟩),
  (110, ⟨tWriter, 32, (.node [.nilslice, (nat 0)]), none, none, false, none, false⟩),
  (112, ⟨tLwriter, 32, (.node [(.node [.nilslice, (nat 0)])]), none, none, false, none, false⟩),
  (113, ⟨.cell, 8, .nilptr, none, none, false, some 110, false⟩),
  (115, ⟨(.int .u64), 8, (u64 0#64), none, some .u64, false, none, false⟩),
  (143, ⟨tLhas, 6, (.node [(.bool false), (.bool false), (.bool false), (.bool false), (.bool false), (.bool false)]), none, none, false, none, false⟩)]
def TT : Nat → Option TI := tabOf ttl
theorem TT_ok : TTok Try.prog TT := ttB_ok (by kernel_rfl)
theorem mixed_ok : Try.prog.follows .mixedOrders = true := by kernel_rfl
end Go.Vab

/- How the seat's arguments are read. Printed by wip/tools/rd.py (own work). -/
namespace Go.Vas
open Go Go.Vab Go.Proofs

theorem ownV : ownKnob Try.prog.godebug = none := by kernel_rfl
theorem laidV : laidOutB Try.prog = true := by kernel_rfl
def okV : List TypeId := [5, 22, 24, 26, 27, 28, 29, 31, 32, 33, 34, 35, 37, 38, 40, 42, 87, 90, 93, 96]
theorem plainV : plainB Try.prog TT okV = true := by kernel_rfl
theorem boolV : Try.prog.underlying 4 = some .bool := by kernel_rfl
theorem tyOf {t : Nat} {i : TI} {u : Ty} (h : (match TT t with | some j => Ty.beq j.ty u | none => false) = true) (hti : TT t = some i) : i.ty = u := by
  rw [hti] at h
  exact Ty.beq_eq _ _ h
theorem und_u8 : Try.prog.underlying 5 = some (.int .u8) := by kernel_rfl
theorem und_role : Try.prog.underlying 28 = some (.int .u8) := by kernel_rfl
theorem und_link : Try.prog.underlying 29 = some (.int .u8) := by kernel_rfl
theorem und_kind : Try.prog.underlying 38 = some (.int .u8) := by kernel_rfl
theorem und_u32 : Try.prog.underlying 22 = some (.int .u32) := by kernel_rfl
theorem und_pt : Try.prog.underlying 24 = some (.array 32 5) := by kernel_rfl
theorem und_bs : Try.prog.underlying 27 = some (.slice 5) := by kernel_rfl
theorem und_seats : Try.prog.underlying 32 = some (.slice 87) := by kernel_rfl
theorem und_invites : Try.prog.underlying 33 = some (.slice 90) := by kernel_rfl
theorem und_asks : Try.prog.underlying 34 = some (.slice 93) := by kernel_rfl
theorem und_bans : Try.prog.underlying 35 = some (.slice 96) := by kernel_rfl
theorem ft_pub : ftys Try.prog 26 = some [24, 24] := by kernel_rfl
theorem ft_ci : ftys Try.prog 40 = some [24, 24] := by kernel_rfl
theorem ft_acc : ftys Try.prog 31 = some [28, 28, 29] := by kernel_rfl
theorem ft_seat : ftys Try.prog 87 = some [40, 28, 22] := by kernel_rfl
theorem ft_inv : ftys Try.prog 90 = some [40, 28, 40] := by kernel_rfl
theorem ft_ask : ftys Try.prog 93 = some [40, 22] := by kernel_rfl
theorem ft_ban : ftys Try.prog 96 = some [40, 40] := by kernel_rfl
theorem ft_st : ftys Try.prog 37 = some [22, 26, 27, 31, 27, 32, 33, 34, 35] := by kernel_rfl
theorem ft_act : ftys Try.prog 42 = some [22, 38, 40, 24, 28, 27, 31, 27] := by kernel_rfl
theorem rd_pt : Reads Try.prog TT 24 (.arr 32 (.int .u8)) pt := rdPt und_pt und_u8
theorem rd_pub : Reads Try.prog TT 26 tCipher eCi := rdCi ft_pub rd_pt
theorem rd_ci : Reads Try.prog TT 40 tCipher eCi := rdCi ft_ci rd_pt
theorem rd_acc : Reads Try.prog TT 31 tAccess eAcc := rdAcc ft_acc und_role und_link
theorem rd_bs : ReadsB Try.prog TT 27 := fun _ _ _ hr => rdB und_bs und_u8 (by kernel_rfl) (fun _ h => tyOf (by kernel_rfl) h) hr
theorem rd_seat : Reads Try.prog TT 87 tSeat eSeat := rdSeat ft_seat rd_ci und_role und_u32
theorem rd_inv : Reads Try.prog TT 90 tInvite eInv := rdInv ft_inv rd_ci und_role
theorem rd_ask : Reads Try.prog TT 93 tAsk eAsk := rdAsk ft_ask rd_ci und_u32
theorem rd_ban : Reads Try.prog TT 96 tBan eBan := rdBan ft_ban rd_ci
theorem rd_seats : ReadsR Try.prog TT 32 tSeat eSeat := fun _ _ _ hr => rdR und_seats (of_decide_eq_true (by kernel_rfl)) (fun _ h => tyOf (by kernel_rfl) h) ⟨_, tSeat_x⟩ rd_seat hr
theorem rd_invites : ReadsR Try.prog TT 33 tInvite eInv := fun _ _ _ hr => rdR und_invites (of_decide_eq_true (by kernel_rfl)) (fun _ h => tyOf (by kernel_rfl) h) ⟨_, tInvite_x⟩ rd_inv hr
theorem rd_asks : ReadsR Try.prog TT 34 tAsk eAsk := fun _ _ _ hr => rdR und_asks (of_decide_eq_true (by kernel_rfl)) (fun _ h => tyOf (by kernel_rfl) h) ⟨_, tAsk_x⟩ rd_ask hr
theorem rd_bans : ReadsR Try.prog TT 35 tBan eBan := fun _ _ _ hr => rdR und_bans (of_decide_eq_true (by kernel_rfl)) (fun _ h => tyOf (by kernel_rfl) h) ⟨_, tBan_x⟩ rd_ban hr
theorem rd_st {h : Heap} {n : Nat} {i : TI} {a : AV} (hti : TT 37 = some i) (ht : hasTy a i.ty = true) (hr : Rd Try.prog TT h n 37 a) : ∃ (x : Stt) (vt vp vs vi va vb : AV), a = eSt x vt vp vs vi va vb ∧ StR h x vt vp vs vi va vb :=
  rdState ft_st und_u32 rd_pub rd_bs rd_acc rd_seats rd_invites rd_asks rd_bans (by rw [tyOf (by kernel_rfl) hti] at ht; exact ht) hr
theorem rd_act {h : Heap} {n : Nat} {i : TI} {a : AV} (hti : TT 42 = some i) (ht : hasTy a i.ty = true) (hr : Rd Try.prog TT h n 42 a) : ∃ (x : Actn) (vt vp : AV), a = eAct x vt vp ∧ ActR h x vt vp :=
  rdAction ft_act und_u32 und_kind rd_ci rd_pt und_role rd_bs rd_acc (by rw [tyOf (by kernel_rfl) hti] at ht; exact ht) hr

end Go.Vas

/- How the seat's requests and replies are read. Printed by wip/tools/rd2.py (own work). -/
namespace Go.Vas
open Go Go.Vab Go.Proofs

def okV2 : List TypeId := [5, 22, 24, 26, 27, 28, 29, 31, 32, 33, 34, 35, 37, 38, 40, 42, 49, 51, 52, 53, 55, 57, 59, 61, 63, 65, 66, 67, 69, 71, 73, 87, 90, 93, 96, 98, 100]
theorem plainV2 : plainB Try.prog TT okV2 = true := by kernel_rfl
theorem und_rkind : Try.prog.underlying 49 = some (.int .u8) := by kernel_rfl
theorem und_id : Try.prog.underlying 51 = some (.array 16 5) := by kernel_rfl
theorem und_sc : Try.prog.underlying 52 = some (.array 32 5) := by kernel_rfl
theorem und_scs : Try.prog.underlying 53 = some (.slice 52) := by kernel_rfl
theorem und_errno : Try.prog.underlying 66 = some (.int .i64) := by kernel_rfl
theorem und_dels : Try.prog.underlying 67 = some (.slice 100) := by kernel_rfl
theorem ft_prf : ftys Try.prog 55 = some [52, 53] := by kernel_rfl
theorem ft_pas : ftys Try.prog 57 = some [24, 24, 24, 55] := by kernel_rfl
theorem ft_tie : ftys Try.prog 59 = some [24, 55] := by kernel_rfl
theorem ft_shw : ftys Try.prog 61 = some [57, 59] := by kernel_rfl
theorem ft_vou : ftys Try.prog 63 = some [24, 24, 24, 24, 24, 55] := by kernel_rfl
theorem ft_req : ftys Try.prog 65 = some [49, 51, 22, 26, 27, 31, 40, 27, 42, 22, 61, 63] := by kernel_rfl
theorem ft_tok : ftys Try.prog 69 = some [24, 24] := by kernel_rfl
theorem ft_gra : ftys Try.prog 71 = some [69, 55] := by kernel_rfl
theorem ft_sig : ftys Try.prog 98 = some [24, 52] := by kernel_rfl
theorem ft_del : ftys Try.prog 100 = some [27, 98] := by kernel_rfl
theorem ft_rep : ftys Try.prog 73 = some [66, 5, 37, 67, 71] := by kernel_rfl
theorem rd_sc : Reads Try.prog TT 52 tPt pt := rdPt und_sc und_u8
theorem rd_scs : ReadsPts Try.prog TT 53 := rdPts und_scs (of_decide_eq_true (by kernel_rfl)) (fun _ h => tyOf (by kernel_rfl) h) rd_sc
theorem rd_prf : ReadsPrf Try.prog TT 55 := rdPrf ft_prf rd_sc rd_scs
theorem rd_pas : ReadsPas Try.prog TT 57 := rdPas ft_pas rd_pt rd_prf
theorem rd_tie : ReadsTie Try.prog TT 59 := rdTie ft_tie rd_pt rd_prf
theorem rd_shw : ReadsShw Try.prog TT 61 := rdShw ft_shw rd_pas rd_tie
theorem rd_vou : ReadsVou Try.prog TT 63 := rdVou ft_vou rd_pt rd_prf
theorem rd_actn : ReadsAct Try.prog TT 42 := fun _ _ _ ht hr => rdAction ft_act und_u32 und_kind rd_ci rd_pt und_role rd_bs rd_acc ht hr
theorem rd_stt : ReadsSt Try.prog TT 37 := fun _ _ _ ht hr => rdState ft_st und_u32 rd_pub rd_bs rd_acc rd_seats rd_invites rd_asks rd_bans ht hr
theorem rd_reqs : ReadsReq Try.prog TT 65 := rdReq ft_req und_rkind (rdId und_id und_u8) und_u32 rd_pub rd_bs rd_acc rd_ci rd_actn rd_shw rd_vou
theorem rd_sig : Reads Try.prog TT 98 tCipher eCi := by
  intro h n a ht hr
  obtain ⟨vs, m, rfl, hv⟩ := rdS ft_sig hr
  obtain ⟨x0, vs, rfl, t0, ht⟩ := hasTys_c (by simpa using ht)
  obtain ⟨x1, vs, rfl, t1, ht⟩ := hasTys_c ht
  obtain rfl := hasTys_n ht
  obtain ⟨_, e0, r0⟩ := hv 0 _ rfl
  obtain ⟨_, e1, r1⟩ := hv 1 _ rfl
  cases e0; cases e1
  obtain ⟨y0, rfl⟩ := rd_pt _ _ _ t0 r0
  obtain ⟨y1, rfl⟩ := rd_sc _ _ _ t1 r1
  exact ⟨⟨y0, y1⟩, rfl⟩
theorem rd_tok : Reads Try.prog TT 69 tCipher eCi := rdCi ft_tok rd_pt
theorem rd_gra : ReadsGra Try.prog TT 71 := rdGra ft_gra rd_tok rd_prf
theorem rd_dels : ReadsDels Try.prog TT 67 := fun _ _ _ hr => rdDels und_dels (of_decide_eq_true (by kernel_rfl)) (fun _ h => tyOf (by kernel_rfl) h) ft_del rd_bs rd_sig hr
theorem rd_reps : ReadsRep Try.prog TT 73 := rdRep ft_rep und_errno und_u8 rd_stt rd_dels rd_gra
theorem rd_req {h : Heap} {n : Nat} {i : TI} {a : AV} (hti : TT 65 = some i) (ht : hasTy a i.ty = true) (hr : Rd Try.prog TT h n 65 a) : ∃ (r : Req) (vt vp at_ ap s1 s2 s3 : AV), a = eReq r vt vp at_ ap s1 s2 s3 ∧ ReqR h r vt vp at_ ap s1 s2 s3 :=
  rd_reqs h n a (by rw [tyOf (by kernel_rfl) hti] at ht; exact ht) hr
theorem rd_rep {h : Heap} {n : Nat} {i : TI} {a : AV} (hti : TT 73 = some i) (ht : hasTy a i.ty = true) (hr : Rd Try.prog TT h n 73 a) : ∃ (r : Rep) (vt vp vs vi va vb vd sg : AV), a = eRep r vt vp vs vi va vb vd sg ∧ RepR h r vt vp vs vi va vb vd sg :=
  rd_reps h n a (by rw [tyOf (by kernel_rfl) hti] at ht; exact ht) hr

end Go.Vas

/-
  What may be: roles, access, actions.
-/
namespace Go.Vab
open Go

def roleOk (r : BitVec 8) : Bool := decide (r = 1#8) || decide (r = 2#8)
def accOk (a : Acc) : Bool := roleOk a.title && roleOk a.members && decide (a.link ≤ 2#8)
def hW (k : BitVec 8) : Bool := decide (k = 1#8) || decide (k = 5#8) || decide (k = 9#8) || decide (k = 10#8)
def hE (k : BitVec 8) : Bool := decide (k = 3#8) || decide (k = 12#8) || decide (k = 2#8) || decide (k = 6#8) || decide (k = 13#8) || decide (k = 14#8) || decide (k = 15#8)
def hR (k : BitVec 8) : Bool := decide (k = 1#8) || decide (k = 5#8) || decide (k = 3#8) || decide (k = 12#8)
def hT (k : BitVec 8) : Bool := decide (k = 16#8)
def hA (k : BitVec 8) : Bool := decide (k = 17#8)
def hP (k : BitVec 8) : Bool := decide (k = 9#8) || decide (k = 10#8) || decide (k = 18#8)
def eHas (w e r t a p : Bool) : AV := .node [.bool w, .bool e, .bool r, .bool t, .bool a, .bool p]
def hasV (k : BitVec 8) : AV := eHas (hW k) (hE k) (hR k) (hT k) (hA k) (hP k)
section
variable (w e r t a p x : Bool) (q : List Nat)
@[simp] theorem hasTy_eHas : hasTy (eHas w e r t a p) tLhas = true := by simp [eHas]
@[simp] theorem eHas_get0 : (eHas w e r t a p).get (0 :: q) = (AV.bool w).get q := by simp [eHas]
@[simp] theorem eHas_get1 : (eHas w e r t a p).get (1 :: q) = (AV.bool e).get q := by simp [eHas]
@[simp] theorem eHas_get2 : (eHas w e r t a p).get (2 :: q) = (AV.bool r).get q := by simp [eHas]
@[simp] theorem eHas_get3 : (eHas w e r t a p).get (3 :: q) = (AV.bool t).get q := by simp [eHas]
@[simp] theorem eHas_get4 : (eHas w e r t a p).get (4 :: q) = (AV.bool a).get q := by simp [eHas]
@[simp] theorem eHas_get5 : (eHas w e r t a p).get (5 :: q) = (AV.bool p).get q := by simp [eHas]
@[simp] theorem eHas_put0 : (eHas w e r t a p).put [0] (.bool x) = some (eHas x e r t a p) := by simp [eHas]
@[simp] theorem eHas_put1 : (eHas w e r t a p).put [1] (.bool x) = some (eHas w x r t a p) := by simp [eHas]
@[simp] theorem eHas_put2 : (eHas w e r t a p).put [2] (.bool x) = some (eHas w e x t a p) := by simp [eHas]
@[simp] theorem eHas_put3 : (eHas w e r t a p).put [3] (.bool x) = some (eHas w e r x a p) := by simp [eHas]
@[simp] theorem eHas_put4 : (eHas w e r t a p).put [4] (.bool x) = some (eHas w e r t x p) := by simp [eHas]
@[simp] theorem eHas_put5 : (eHas w e r t a p).put [5] (.bool x) = some (eHas w e r t a x) := by simp [eHas]
@[simp] theorem fold_eHas : AV.node [.bool w, .bool e, .bool r, .bool t, .bool a, .bool p] = eHas w e r t a p := rfl
end

def mayA (a : Actn) : Bool :=
  !(decide (a.kind < 1#8) || decide (18#8 < a.kind) || decide (200 < a.title.length)) &&
  !((!hW a.kind && !decide (a.who = ci0)) || (!hE a.kind && !decide (a.e = pt0)) || (!(hR a.kind == roleOk a.role)) || (!hR a.kind && !decide (a.role = 0#8))) &&
  !((!hT a.kind && decide (0 < a.title.length)) || (hA a.kind && !accOk a.acc) || (!hA a.kind && !decide (a.acc = acc0))) &&
  ((decide (a.pass.length = 0) && (!hP a.kind || decide (a.kind = 18#8))) || (decide (a.pass.length = 16) && hP a.kind))

@[simp] theorem mUn_not (b : Bool) : mUn .not (.bool b) = some (.bool !b) := rfl
theorem fin_b0 {h : Heap} {b c : Bool} (hb : c = b) : ∃ t, (oneOrTuple [.bool c], h) = ((.bool b, h ++ t) : AV × Heap) := ⟨[], by simp [oneOrTuple, hb]⟩
/-! zero values, written out -/
@[simp] theorem zero_Ci : AV.node [pt pt0, pt pt0] = eCi ci0 := rfl
@[simp] theorem ci0_fold : (⟨pt0, pt0⟩ : Ci) = ci0 := rfl
@[simp] theorem acc0_fold : (⟨0#8, 0#8, 0#8⟩ : Acc) = acc0 := rfl
@[simp] theorem fillRow_nil (t : Ty) (r : AV) : fillRow t r [] = some r := rfl

end Go.Vab

/- How the code of a function is read. Printed by wip/tools/gen2.py (own work). -/
namespace Go.Vab
open Go Go.Proofs
/-! vestry/forms.role -/
def cx60 : Ctx := ⟨fun _ _ _ => none, TT, 9, [3, 4, 5, 6, 7, 8]⟩
noncomputable def n60_0 : Code := bodyOf Try.f60
noncomputable def n60_1 : Code := cR n60_0
noncomputable def n60_2 : Code := cR n60_1
theorem n60_2_eq (Q : Ex × St → Prop) (s : St) : wC Try.prog cx60 n60_2 Q s = Q (.ret, s) := yE
theorem n60_1_eq (Q : Ex × St → Prop) (env : Env) (h : Heap) : wC Try.prog cx60 n60_1 Q ⟨env, h⟩ = (Evs (mBin .eql (env.get 0) (u8 1#8)) fun v1 => Evs (gv v1 false (some (env.get 0))) fun v3 => Evs (gv v1 false (mBin .eql v3 (u8 2#8))) fun v4 => Evs (mPick v1 (.bool true) v4) fun v5 => wC Try.prog cx60 n60_2 Q ⟨(Env.put env 2 v5), h⟩) := (ySR 1 (cOps (cL n60_1)) (cR n60_1)).trans (by
  refine w0 ?_
  refine wT 3 (env.get 0) ?_
  refine wP 4 fun v1 => ?_
  refine wT 5 v1 ?_
  refine wG 6 fun v3 => ?_
  refine wG 7 fun v4 => ?_
  refine wP 8 fun v5 => ?_
  refine wT 2 v5 ?_
  exact wE)
theorem n60_0_eq (Q : Ex × St → Prop) (env : Env) (h : Heap) : wC Try.prog cx60 n60_0 Q ⟨env, h⟩ = ( wC Try.prog cx60 n60_1 Q ⟨(Env.put env 2 (.bool false)), h⟩) := (ySR 0 (cOps (cL n60_0)) (cR n60_0)).trans (by
  refine w0 ?_
  refine wT 2 (.bool false) ?_
  exact wE)
theorem fn60 : Try.prog.funcs[60]? = some Try.f60 := by kernel_rfl
theorem q60 {a0 : AV} {h : Heap} {K : AV × Heap → Prop} (H : ∀ env : Env, env.get 0 = a0 → wC Try.prog cx60 n60_0 (retW (fun s => (bnd (some (s.env.get 2)) fun v => bnd (some []) fun vs => some (v :: vs))) K) ⟨env, h⟩) : SpecQ Try.prog 60 [a0] h K :=
  bodyW_sound (C := cx60) TT_ok mixed_ok fn60 (by kernel_rfl) (show _ = some n60_0 by kernel_rfl) (by kernel_rfl) (by kernel_rfl) (of_decide_eq_true (by kernel_rfl)) ((show wC Try.prog cx60 n60_0 (retW (fun s => resAll cx60 s Try.f60.results.toList) K) ⟨env0 cx60 [a0], h⟩ = wC Try.prog cx60 n60_0 (retW (fun s => (bnd (some (s.env.get 2)) fun v => bnd (some []) fun vs => some (v :: vs))) K) ⟨[(0, a0), (1, .junk), (2, .junk)], h⟩ by kernel_rfl).mpr (H [(0, a0), (1, .junk), (2, .junk)] rfl))
def sn60 := And.intro n60_2_eq (And.intro n60_1_eq (n60_0_eq))
-- draws: 
end Go.Vab

/- How the code of a function is read. Printed by wip/tools/gen2.py (own work). -/
namespace Go.Vab
open Go Go.Proofs
/-! vestry/forms.mayAccess -/
def cx49 : Ctx := ⟨fun _ _ _ => none, TT, 16, [3, 4, 5, 6, 7, 8, 9, 10, 11, 12, 13, 14, 15]⟩
noncomputable def n49_0 : Code := bodyOf Try.f49
noncomputable def n49_1 : Code := cR n49_0
noncomputable def n49_2 : Code := cR n49_1
theorem n49_2_eq (Q : Ex × St → Prop) (s : St) : wC Try.prog cx49 n49_2 Q s = Q (.ret, s) := yE
theorem n49_1_eq (Q : Ex × St → Prop) (env : Env) (h : Heap) : wC Try.prog cx49 n49_1 Q ⟨env, h⟩ = (Evs (mFieldAddr tAccess (env.get 1) 0) fun v0 => Evs (mLoad (.int .u8) v0 h) fun v1 => SpecA Try.prog 60 [v1] h fun r2 => Evs (gv r2.1 true (mFieldAddr tAccess (env.get 1) 1)) fun v4 => Evs (gv r2.1 true (mLoad (.int .u8) v4 r2.2)) fun v5 => gW r2.1 true (SpecA Try.prog 60 [v5] r2.2) r2.2 fun r6 => Evs (mPick r2.1 r6.1 (.bool false)) fun v7 => Evs (gv v7 true (mFieldAddr tAccess (env.get 1) 2)) fun v9 => Evs (gv v7 true (mLoad (.int .u8) v9 r6.2)) fun v10 => Evs (gv v7 true (mBin .leq v10 (u8 2#8))) fun v11 => Evs (mPick v7 v11 (.bool false)) fun v12 => wC Try.prog cx49 n49_2 Q ⟨(Env.put env 2 v12), r6.2⟩) := (ySR 1 (cOps (cL n49_1)) (cR n49_1)).trans (by
  refine w0 ?_
  refine wP 3 fun v0 => ?_
  refine wP 4 fun v1 => ?_
  refine wH 5 fun r2 => ?_
  refine wT 6 r2.1 ?_
  refine wG 7 fun v4 => ?_
  refine wG 8 fun v5 => ?_
  refine wH 9 fun r6 => ?_
  refine wP 10 fun v7 => ?_
  refine wT 11 v7 ?_
  refine wG 12 fun v9 => ?_
  refine wG 13 fun v10 => ?_
  refine wG 14 fun v11 => ?_
  refine wP 15 fun v12 => ?_
  refine wT 2 v12 ?_
  exact wE)
theorem n49_0_eq (Q : Ex × St → Prop) (env : Env) (h : Heap) : wC Try.prog cx49 n49_0 Q ⟨env, h⟩ = (Evs (mNew tAccess (env.get 0) h) fun r0 => wC Try.prog cx49 n49_1 Q ⟨(Env.put (Env.put env 1 r0.1) 2 (.bool false)), r0.2⟩) := (ySR 0 (cOps (cL n49_0)) (cR n49_0)).trans (by
  refine w0 ?_
  refine wH 1 fun r0 => ?_
  refine wT 2 (.bool false) ?_
  exact wE)
theorem fn49 : Try.prog.funcs[49]? = some Try.f49 := by kernel_rfl
theorem q49 {a0 : AV} {h : Heap} {K : AV × Heap → Prop} (H : ∀ env : Env, env.get 0 = a0 → wC Try.prog cx49 n49_0 (retW (fun s => (bnd (some (s.env.get 2)) fun v => bnd (some []) fun vs => some (v :: vs))) K) ⟨env, h⟩) : SpecQ Try.prog 49 [a0] h K :=
  bodyW_sound (C := cx49) TT_ok mixed_ok fn49 (by kernel_rfl) (show _ = some n49_0 by kernel_rfl) (by kernel_rfl) (by kernel_rfl) (of_decide_eq_true (by kernel_rfl)) ((show wC Try.prog cx49 n49_0 (retW (fun s => resAll cx49 s Try.f49.results.toList) K) ⟨env0 cx49 [a0], h⟩ = wC Try.prog cx49 n49_0 (retW (fun s => (bnd (some (s.env.get 2)) fun v => bnd (some []) fun vs => some (v :: vs))) K) ⟨[(0, a0), (1, .junk), (2, .junk)], h⟩ by kernel_rfl).mpr (H [(0, a0), (1, .junk), (2, .junk)] rfl))
def sn49 := And.intro n49_2_eq (And.intro n49_1_eq (n49_0_eq))
-- draws: 
end Go.Vab

/- How the code of a function is read. Printed by wip/tools/gen2.py (own work). -/
namespace Go.Vab
open Go Go.Proofs
/-! vestry/forms.fields -/
def cx65 : Ctx := ⟨fun _ _ _ => none, TT, 34, [5, 6, 8, 9, 11, 13, 14, 16, 17, 18, 19, 20, 22, 24, 25, 26, 27, 28, 29, 30, 31, 32, 33]⟩
noncomputable def n65_0 : Code := bodyOf Try.f65
noncomputable def n65_1 : Code := cR n65_0
noncomputable def n65_2 : Code := cL n65_1
noncomputable def n65_3 : Code := cR n65_2
noncomputable def n65_4 : Code := cB n65_3
noncomputable def n65_5 : Code := cL n65_4
noncomputable def n65_6 : Code := cB n65_5
noncomputable def n65_7 : Code := cL n65_6
noncomputable def n65_8 : Code := cB n65_7
noncomputable def n65_9 : Code := cL n65_8
noncomputable def n65_10 : Code := cB n65_9
noncomputable def n65_11 : Code := cL n65_10
noncomputable def n65_12 : Code := cB n65_11
noncomputable def n65_13 : Code := cL n65_12
noncomputable def n65_14 : Code := cB n65_13
noncomputable def n65_15 : Code := cL n65_14
noncomputable def n65_16 : Code := cB n65_15
noncomputable def n65_17 : Code := cL n65_16
noncomputable def n65_18 : Code := cB n65_17
noncomputable def n65_19 : Code := cL n65_18
noncomputable def n65_20 : Code := cL n65_19
noncomputable def n65_21 : Code := cL n65_20
noncomputable def n65_22 : Code := cR n65_21
noncomputable def n65_23 : Code := cL n65_22
noncomputable def n65_24 : Code := cR n65_22
noncomputable def n65_25 : Code := cR n65_20
noncomputable def n65_26 : Code := cL n65_25
noncomputable def n65_27 : Code := cR n65_25
noncomputable def n65_28 : Code := cR n65_19
noncomputable def n65_29 : Code := cL n65_28
noncomputable def n65_30 : Code := cL n65_29
noncomputable def n65_31 : Code := cR n65_30
noncomputable def n65_32 : Code := cL n65_31
noncomputable def n65_33 : Code := cR n65_31
noncomputable def n65_34 : Code := cR n65_29
noncomputable def n65_35 : Code := cL n65_34
noncomputable def n65_36 : Code := cR n65_34
noncomputable def n65_37 : Code := cR n65_28
noncomputable def n65_38 : Code := cL n65_37
noncomputable def n65_39 : Code := cR n65_38
noncomputable def n65_40 : Code := cL n65_39
noncomputable def n65_41 : Code := cR n65_39
noncomputable def n65_42 : Code := cR n65_37
noncomputable def n65_43 : Code := cL n65_42
noncomputable def n65_44 : Code := cL n65_43
noncomputable def n65_45 : Code := cR n65_44
noncomputable def n65_46 : Code := cL n65_45
noncomputable def n65_47 : Code := cR n65_45
noncomputable def n65_48 : Code := cR n65_43
noncomputable def n65_49 : Code := cL n65_48
noncomputable def n65_50 : Code := cR n65_48
noncomputable def n65_51 : Code := cR n65_42
noncomputable def n65_52 : Code := cL n65_51
noncomputable def n65_53 : Code := cL n65_52
noncomputable def n65_54 : Code := cR n65_53
noncomputable def n65_55 : Code := cL n65_54
noncomputable def n65_56 : Code := cR n65_54
noncomputable def n65_57 : Code := cR n65_56
noncomputable def n65_58 : Code := cL n65_57
noncomputable def n65_59 : Code := cR n65_57
noncomputable def n65_60 : Code := cR n65_59
noncomputable def n65_61 : Code := cL n65_60
noncomputable def n65_62 : Code := cR n65_60
noncomputable def n65_63 : Code := cR n65_62
noncomputable def n65_64 : Code := cL n65_63
noncomputable def n65_65 : Code := cR n65_63
noncomputable def n65_66 : Code := cR n65_52
noncomputable def n65_67 : Code := cL n65_66
noncomputable def n65_68 : Code := cR n65_66
noncomputable def n65_69 : Code := cR n65_51
noncomputable def n65_70 : Code := cL n65_69
noncomputable def n65_71 : Code := cR n65_70
noncomputable def n65_72 : Code := cL n65_71
noncomputable def n65_73 : Code := cR n65_71
noncomputable def n65_74 : Code := cR n65_69
noncomputable def n65_75 : Code := cR n65_74
noncomputable def n65_76 : Code := cL n65_75
noncomputable def n65_77 : Code := cR n65_75
noncomputable def n65_78 : Code := cR n65_18
noncomputable def n65_79 : Code := cR n65_16
noncomputable def n65_80 : Code := cR n65_79
noncomputable def n65_81 : Code := cR n65_14
noncomputable def n65_82 : Code := cR n65_12
noncomputable def n65_83 : Code := cR n65_82
noncomputable def n65_84 : Code := cR n65_10
noncomputable def n65_85 : Code := cR n65_8
noncomputable def n65_86 : Code := cR n65_85
noncomputable def n65_87 : Code := cR n65_6
noncomputable def n65_88 : Code := cR n65_87
noncomputable def n65_89 : Code := cR n65_4
noncomputable def n65_90 : Code := cR n65_89
noncomputable def n65_91 : Code := cR n65_1
noncomputable def n65_92 : Code := cR n65_91
theorem n65_23_eq (Q : Ex × St → Prop) (s : St) : wC Try.prog cx65 n65_23 Q s = Q (.nrm, s) := yK
theorem n65_24_eq (Q : Ex × St → Prop) (env : Env) (h : Heap) : wC Try.prog cx65 n65_24 Q ⟨env, h⟩ = (Evs (mBin .eql (env.get 3) (u8 5#8)) fun v0 => Q (.nrm, ⟨(Env.put env 4 v0), h⟩)) := (yR 3 (cOps n65_24)).trans (by
  refine w0 ?_
  refine wP 6 fun v0 => ?_
  refine wT 4 v0 ?_
  exact wE)
theorem n65_22_eq (Q : Ex × St → Prop) (s : St) : wC Try.prog cx65 n65_22 Q s = cndW (s.env.get 4) (wL Try.prog cx65 n65_23 Q s) (wL Try.prog cx65 n65_24 Q s) := yC 4 _ _
theorem n65_21_eq (Q : Ex × St → Prop) (env : Env) (h : Heap) : wC Try.prog cx65 n65_21 Q ⟨env, h⟩ = (Evs (mBin .eql (env.get 3) (u8 1#8)) fun v0 => wC Try.prog cx65 n65_22 Q ⟨(Env.put env 4 v0), h⟩) := (ySR 2 (cOps (cL n65_21)) (cR n65_21)).trans (by
  refine w0 ?_
  refine wP 5 fun v0 => ?_
  refine wT 4 v0 ?_
  exact wE)
theorem n65_26_eq (Q : Ex × St → Prop) (s : St) : wC Try.prog cx65 n65_26 Q s = Q (.exit 1, s) := yX 1
theorem n65_27_eq (Q : Ex × St → Prop) (s : St) : wC Try.prog cx65 n65_27 Q s = Q (.nrm, s) := yK
theorem n65_25_eq (Q : Ex × St → Prop) (s : St) : wC Try.prog cx65 n65_25 Q s = cndW (s.env.get 4) (wL Try.prog cx65 n65_26 Q s) (wL Try.prog cx65 n65_27 Q s) := yC 4 _ _
theorem n65_20_eq (Q : Ex × St → Prop) (s : St) : wC Try.prog cx65 n65_20 Q s = wC Try.prog cx65 n65_21 (sqW (wC Try.prog cx65 n65_25) Q) s := yS _ _
theorem n65_32_eq (Q : Ex × St → Prop) (s : St) : wC Try.prog cx65 n65_32 Q s = Q (.nrm, s) := yK
theorem n65_33_eq (Q : Ex × St → Prop) (env : Env) (h : Heap) : wC Try.prog cx65 n65_33 Q ⟨env, h⟩ = (Evs (mBin .eql (env.get 3) (u8 10#8)) fun v0 => Q (.nrm, ⟨(Env.put env 7 v0), h⟩)) := (yR 5 (cOps n65_33)).trans (by
  refine w0 ?_
  refine wP 9 fun v0 => ?_
  refine wT 7 v0 ?_
  exact wE)
theorem n65_31_eq (Q : Ex × St → Prop) (s : St) : wC Try.prog cx65 n65_31 Q s = cndW (s.env.get 7) (wL Try.prog cx65 n65_32 Q s) (wL Try.prog cx65 n65_33 Q s) := yC 7 _ _
theorem n65_30_eq (Q : Ex × St → Prop) (env : Env) (h : Heap) : wC Try.prog cx65 n65_30 Q ⟨env, h⟩ = (Evs (mBin .eql (env.get 3) (u8 9#8)) fun v0 => wC Try.prog cx65 n65_31 Q ⟨(Env.put env 7 v0), h⟩) := (ySR 4 (cOps (cL n65_30)) (cR n65_30)).trans (by
  refine w0 ?_
  refine wP 8 fun v0 => ?_
  refine wT 7 v0 ?_
  exact wE)
theorem n65_35_eq (Q : Ex × St → Prop) (s : St) : wC Try.prog cx65 n65_35 Q s = Q (.exit 2, s) := yX 2
theorem n65_36_eq (Q : Ex × St → Prop) (s : St) : wC Try.prog cx65 n65_36 Q s = Q (.nrm, s) := yK
theorem n65_34_eq (Q : Ex × St → Prop) (s : St) : wC Try.prog cx65 n65_34 Q s = cndW (s.env.get 7) (wL Try.prog cx65 n65_35 Q s) (wL Try.prog cx65 n65_36 Q s) := yC 7 _ _
theorem n65_29_eq (Q : Ex × St → Prop) (s : St) : wC Try.prog cx65 n65_29 Q s = wC Try.prog cx65 n65_30 (sqW (wC Try.prog cx65 n65_34) Q) s := yS _ _
theorem n65_40_eq (Q : Ex × St → Prop) (s : St) : wC Try.prog cx65 n65_40 Q s = Q (.exit 3, s) := yX 3
theorem n65_41_eq (Q : Ex × St → Prop) (s : St) : wC Try.prog cx65 n65_41 Q s = Q (.nrm, s) := yK
theorem n65_39_eq (Q : Ex × St → Prop) (s : St) : wC Try.prog cx65 n65_39 Q s = cndW (s.env.get 10) (wL Try.prog cx65 n65_40 Q s) (wL Try.prog cx65 n65_41 Q s) := yC 10 _ _
theorem n65_38_eq (Q : Ex × St → Prop) (env : Env) (h : Heap) : wC Try.prog cx65 n65_38 Q ⟨env, h⟩ = (Evs (mBin .eql (env.get 3) (u8 18#8)) fun v0 => wC Try.prog cx65 n65_39 Q ⟨(Env.put env 10 v0), h⟩) := (ySR 6 (cOps (cL n65_38)) (cR n65_38)).trans (by
  refine w0 ?_
  refine wP 11 fun v0 => ?_
  refine wT 10 v0 ?_
  exact wE)
theorem n65_46_eq (Q : Ex × St → Prop) (s : St) : wC Try.prog cx65 n65_46 Q s = Q (.nrm, s) := yK
theorem n65_47_eq (Q : Ex × St → Prop) (env : Env) (h : Heap) : wC Try.prog cx65 n65_47 Q ⟨env, h⟩ = (Evs (mBin .eql (env.get 3) (u8 12#8)) fun v0 => Q (.nrm, ⟨(Env.put env 12 v0), h⟩)) := (yR 8 (cOps n65_47)).trans (by
  refine w0 ?_
  refine wP 14 fun v0 => ?_
  refine wT 12 v0 ?_
  exact wE)
theorem n65_45_eq (Q : Ex × St → Prop) (s : St) : wC Try.prog cx65 n65_45 Q s = cndW (s.env.get 12) (wL Try.prog cx65 n65_46 Q s) (wL Try.prog cx65 n65_47 Q s) := yC 12 _ _
theorem n65_44_eq (Q : Ex × St → Prop) (env : Env) (h : Heap) : wC Try.prog cx65 n65_44 Q ⟨env, h⟩ = (Evs (mBin .eql (env.get 3) (u8 3#8)) fun v0 => wC Try.prog cx65 n65_45 Q ⟨(Env.put env 12 v0), h⟩) := (ySR 7 (cOps (cL n65_44)) (cR n65_44)).trans (by
  refine w0 ?_
  refine wP 13 fun v0 => ?_
  refine wT 12 v0 ?_
  exact wE)
theorem n65_49_eq (Q : Ex × St → Prop) (s : St) : wC Try.prog cx65 n65_49 Q s = Q (.exit 4, s) := yX 4
theorem n65_50_eq (Q : Ex × St → Prop) (s : St) : wC Try.prog cx65 n65_50 Q s = Q (.nrm, s) := yK
theorem n65_48_eq (Q : Ex × St → Prop) (s : St) : wC Try.prog cx65 n65_48 Q s = cndW (s.env.get 12) (wL Try.prog cx65 n65_49 Q s) (wL Try.prog cx65 n65_50 Q s) := yC 12 _ _
theorem n65_43_eq (Q : Ex × St → Prop) (s : St) : wC Try.prog cx65 n65_43 Q s = wC Try.prog cx65 n65_44 (sqW (wC Try.prog cx65 n65_48) Q) s := yS _ _
theorem n65_55_eq (Q : Ex × St → Prop) (s : St) : wC Try.prog cx65 n65_55 Q s = Q (.nrm, s) := yK
theorem n65_58_eq (Q : Ex × St → Prop) (s : St) : wC Try.prog cx65 n65_58 Q s = Q (.nrm, s) := yK
theorem n65_61_eq (Q : Ex × St → Prop) (s : St) : wC Try.prog cx65 n65_61 Q s = Q (.nrm, s) := yK
theorem n65_64_eq (Q : Ex × St → Prop) (s : St) : wC Try.prog cx65 n65_64 Q s = Q (.nrm, s) := yK
theorem n65_65_eq (Q : Ex × St → Prop) (env : Env) (h : Heap) : wC Try.prog cx65 n65_65 Q ⟨env, h⟩ = (Evs (mBin .eql (env.get 3) (u8 15#8)) fun v0 => Q (.nrm, ⟨(Env.put env 15 v0), h⟩)) := (yR 13 (cOps n65_65)).trans (by
  refine w0 ?_
  refine wP 20 fun v0 => ?_
  refine wT 15 v0 ?_
  exact wE)
theorem n65_63_eq (Q : Ex × St → Prop) (s : St) : wC Try.prog cx65 n65_63 Q s = cndW (s.env.get 15) (wL Try.prog cx65 n65_64 Q s) (wL Try.prog cx65 n65_65 Q s) := yC 15 _ _
theorem n65_62_eq (Q : Ex × St → Prop) (env : Env) (h : Heap) : wC Try.prog cx65 n65_62 Q ⟨env, h⟩ = (Evs (mBin .eql (env.get 3) (u8 14#8)) fun v0 => wC Try.prog cx65 n65_63 Q ⟨(Env.put env 15 v0), h⟩) := (ySR 12 (cOps (cL n65_62)) (cR n65_62)).trans (by
  refine w0 ?_
  refine wP 19 fun v0 => ?_
  refine wT 15 v0 ?_
  exact wE)
theorem n65_60_eq (Q : Ex × St → Prop) (s : St) : wC Try.prog cx65 n65_60 Q s = cndW (s.env.get 15) (wL Try.prog cx65 n65_61 Q s) (wL Try.prog cx65 n65_62 Q s) := yC 15 _ _
theorem n65_59_eq (Q : Ex × St → Prop) (env : Env) (h : Heap) : wC Try.prog cx65 n65_59 Q ⟨env, h⟩ = (Evs (mBin .eql (env.get 3) (u8 13#8)) fun v0 => wC Try.prog cx65 n65_60 Q ⟨(Env.put env 15 v0), h⟩) := (ySR 11 (cOps (cL n65_59)) (cR n65_59)).trans (by
  refine w0 ?_
  refine wP 18 fun v0 => ?_
  refine wT 15 v0 ?_
  exact wE)
theorem n65_57_eq (Q : Ex × St → Prop) (s : St) : wC Try.prog cx65 n65_57 Q s = cndW (s.env.get 15) (wL Try.prog cx65 n65_58 Q s) (wL Try.prog cx65 n65_59 Q s) := yC 15 _ _
theorem n65_56_eq (Q : Ex × St → Prop) (env : Env) (h : Heap) : wC Try.prog cx65 n65_56 Q ⟨env, h⟩ = (Evs (mBin .eql (env.get 3) (u8 6#8)) fun v0 => wC Try.prog cx65 n65_57 Q ⟨(Env.put env 15 v0), h⟩) := (ySR 10 (cOps (cL n65_56)) (cR n65_56)).trans (by
  refine w0 ?_
  refine wP 17 fun v0 => ?_
  refine wT 15 v0 ?_
  exact wE)
theorem n65_54_eq (Q : Ex × St → Prop) (s : St) : wC Try.prog cx65 n65_54 Q s = cndW (s.env.get 15) (wL Try.prog cx65 n65_55 Q s) (wL Try.prog cx65 n65_56 Q s) := yC 15 _ _
theorem n65_53_eq (Q : Ex × St → Prop) (env : Env) (h : Heap) : wC Try.prog cx65 n65_53 Q ⟨env, h⟩ = (Evs (mBin .eql (env.get 3) (u8 2#8)) fun v0 => wC Try.prog cx65 n65_54 Q ⟨(Env.put env 15 v0), h⟩) := (ySR 9 (cOps (cL n65_53)) (cR n65_53)).trans (by
  refine w0 ?_
  refine wP 16 fun v0 => ?_
  refine wT 15 v0 ?_
  exact wE)
theorem n65_67_eq (Q : Ex × St → Prop) (s : St) : wC Try.prog cx65 n65_67 Q s = Q (.exit 5, s) := yX 5
theorem n65_68_eq (Q : Ex × St → Prop) (s : St) : wC Try.prog cx65 n65_68 Q s = Q (.nrm, s) := yK
theorem n65_66_eq (Q : Ex × St → Prop) (s : St) : wC Try.prog cx65 n65_66 Q s = cndW (s.env.get 15) (wL Try.prog cx65 n65_67 Q s) (wL Try.prog cx65 n65_68 Q s) := yC 15 _ _
theorem n65_52_eq (Q : Ex × St → Prop) (s : St) : wC Try.prog cx65 n65_52 Q s = wC Try.prog cx65 n65_53 (sqW (wC Try.prog cx65 n65_66) Q) s := yS _ _
theorem n65_72_eq (Q : Ex × St → Prop) (s : St) : wC Try.prog cx65 n65_72 Q s = Q (.exit 6, s) := yX 6
theorem n65_73_eq (Q : Ex × St → Prop) (s : St) : wC Try.prog cx65 n65_73 Q s = Q (.nrm, s) := yK
theorem n65_71_eq (Q : Ex × St → Prop) (s : St) : wC Try.prog cx65 n65_71 Q s = cndW (s.env.get 21) (wL Try.prog cx65 n65_72 Q s) (wL Try.prog cx65 n65_73 Q s) := yC 21 _ _
theorem n65_70_eq (Q : Ex × St → Prop) (env : Env) (h : Heap) : wC Try.prog cx65 n65_70 Q ⟨env, h⟩ = (Evs (mBin .eql (env.get 3) (u8 16#8)) fun v0 => wC Try.prog cx65 n65_71 Q ⟨(Env.put env 21 v0), h⟩) := (ySR 14 (cOps (cL n65_70)) (cR n65_70)).trans (by
  refine w0 ?_
  refine wP 22 fun v0 => ?_
  refine wT 21 v0 ?_
  exact wE)
theorem n65_76_eq (Q : Ex × St → Prop) (s : St) : wC Try.prog cx65 n65_76 Q s = Q (.exit 7, s) := yX 7
theorem n65_77_eq (Q : Ex × St → Prop) (s : St) : wC Try.prog cx65 n65_77 Q s = Q (.nrm, s) := yK
theorem n65_75_eq (Q : Ex × St → Prop) (s : St) : wC Try.prog cx65 n65_75 Q s = cndW (s.env.get 23) (wL Try.prog cx65 n65_76 Q s) (wL Try.prog cx65 n65_77 Q s) := yC 23 _ _
theorem n65_74_eq (Q : Ex × St → Prop) (env : Env) (h : Heap) : wC Try.prog cx65 n65_74 Q ⟨env, h⟩ = (Evs (mBin .eql (env.get 3) (u8 17#8)) fun v0 => wC Try.prog cx65 n65_75 Q ⟨(Env.put env 23 v0), h⟩) := (ySR 15 (cOps (cL n65_74)) (cR n65_74)).trans (by
  refine w0 ?_
  refine wP 24 fun v0 => ?_
  refine wT 23 v0 ?_
  exact wE)
theorem n65_69_eq (Q : Ex × St → Prop) (s : St) : wC Try.prog cx65 n65_69 Q s = wC Try.prog cx65 n65_70 (sqW (wC Try.prog cx65 n65_74) Q) s := yS _ _
theorem n65_51_eq (Q : Ex × St → Prop) (s : St) : wC Try.prog cx65 n65_51 Q s = wC Try.prog cx65 n65_52 (sqW (wC Try.prog cx65 n65_69) Q) s := yS _ _
theorem n65_42_eq (Q : Ex × St → Prop) (s : St) : wC Try.prog cx65 n65_42 Q s = wC Try.prog cx65 n65_43 (sqW (wC Try.prog cx65 n65_51) Q) s := yS _ _
theorem n65_37_eq (Q : Ex × St → Prop) (s : St) : wC Try.prog cx65 n65_37 Q s = wC Try.prog cx65 n65_38 (sqW (wC Try.prog cx65 n65_42) Q) s := yS _ _
theorem n65_28_eq (Q : Ex × St → Prop) (s : St) : wC Try.prog cx65 n65_28 Q s = wC Try.prog cx65 n65_29 (sqW (wC Try.prog cx65 n65_37) Q) s := yS _ _
theorem n65_19_eq (Q : Ex × St → Prop) (s : St) : wC Try.prog cx65 n65_19 Q s = wC Try.prog cx65 n65_20 (sqW (wC Try.prog cx65 n65_28) Q) s := yS _ _
theorem n65_78_eq (Q : Ex × St → Prop) (s : St) : wC Try.prog cx65 n65_78 Q s = Q (.exit 0, s) := yX 0
theorem n65_18_eq (Q : Ex × St → Prop) (s : St) : wC Try.prog cx65 n65_18 Q s = wC Try.prog cx65 n65_19 (sqW (wC Try.prog cx65 n65_78) Q) s := yS _ _
theorem n65_17_eq (Q : Ex × St → Prop) (s : St) : wC Try.prog cx65 n65_17 Q s = wC Try.prog cx65 n65_18 (fun r => Q (inBlk 1 r)) s := yB 1 _
theorem n65_80_eq (Q : Ex × St → Prop) (s : St) : wC Try.prog cx65 n65_80 Q s = Q (.exit 0, s) := yX 0
theorem n65_79_eq (Q : Ex × St → Prop) (env : Env) (h : Heap) : wC Try.prog cx65 n65_79 Q ⟨env, h⟩ = (Evs (mFieldAddr tLhas (env.get 2) 0) fun v0 => Evs (stU .cell v0 (.bool true) h) fun r1 => Evs (mFieldAddr tLhas (env.get 2) 2) fun v2 => Evs (stU .cell v2 (.bool true) r1.2) fun r3 => wC Try.prog cx65 n65_80 Q ⟨env, r3.2⟩) := (ySR 16 (cOps (cL n65_79)) (cR n65_79)).trans (by
  refine w0 ?_
  refine wP 25 fun v0 => ?_
  refine wHn fun r1 => ?_
  refine wP 26 fun v2 => ?_
  refine wHn fun r3 => ?_
  exact wE)
theorem n65_16_eq (Q : Ex × St → Prop) (s : St) : wC Try.prog cx65 n65_16 Q s = wC Try.prog cx65 n65_17 (sqW (wC Try.prog cx65 n65_79) Q) s := yS _ _
theorem n65_15_eq (Q : Ex × St → Prop) (s : St) : wC Try.prog cx65 n65_15 Q s = wC Try.prog cx65 n65_16 (fun r => Q (inBlk 2 r)) s := yB 2 _
theorem n65_81_eq (Q : Ex × St → Prop) (env : Env) (h : Heap) : wC Try.prog cx65 n65_81 Q ⟨env, h⟩ = (Evs (mFieldAddr tLhas (env.get 2) 0) fun v0 => Evs (stU .cell v0 (.bool true) h) fun r1 => Q (.nrm, ⟨env, r1.2⟩)) := (yR 17 (cOps n65_81)).trans (by
  refine w0 ?_
  refine wP 27 fun v0 => ?_
  refine wHn fun r1 => ?_
  exact wE)
theorem n65_14_eq (Q : Ex × St → Prop) (s : St) : wC Try.prog cx65 n65_14 Q s = wC Try.prog cx65 n65_15 (sqW (wC Try.prog cx65 n65_81) Q) s := yS _ _
theorem n65_13_eq (Q : Ex × St → Prop) (s : St) : wC Try.prog cx65 n65_13 Q s = wC Try.prog cx65 n65_14 (fun r => Q (inBlk 3 r)) s := yB 3 _
theorem n65_83_eq (Q : Ex × St → Prop) (s : St) : wC Try.prog cx65 n65_83 Q s = Q (.exit 0, s) := yX 0
theorem n65_82_eq (Q : Ex × St → Prop) (env : Env) (h : Heap) : wC Try.prog cx65 n65_82 Q ⟨env, h⟩ = (Evs (mFieldAddr tLhas (env.get 2) 5) fun v0 => Evs (stU .cell v0 (.bool true) h) fun r1 => wC Try.prog cx65 n65_83 Q ⟨env, r1.2⟩) := (ySR 18 (cOps (cL n65_82)) (cR n65_82)).trans (by
  refine w0 ?_
  refine wP 28 fun v0 => ?_
  refine wHn fun r1 => ?_
  exact wE)
theorem n65_12_eq (Q : Ex × St → Prop) (s : St) : wC Try.prog cx65 n65_12 Q s = wC Try.prog cx65 n65_13 (sqW (wC Try.prog cx65 n65_82) Q) s := yS _ _
theorem n65_11_eq (Q : Ex × St → Prop) (s : St) : wC Try.prog cx65 n65_11 Q s = wC Try.prog cx65 n65_12 (fun r => Q (inBlk 4 r)) s := yB 4 _
theorem n65_84_eq (Q : Ex × St → Prop) (env : Env) (h : Heap) : wC Try.prog cx65 n65_84 Q ⟨env, h⟩ = (Evs (mFieldAddr tLhas (env.get 2) 2) fun v0 => Evs (stU .cell v0 (.bool true) h) fun r1 => Q (.nrm, ⟨env, r1.2⟩)) := (yR 19 (cOps n65_84)).trans (by
  refine w0 ?_
  refine wP 29 fun v0 => ?_
  refine wHn fun r1 => ?_
  exact wE)
theorem n65_10_eq (Q : Ex × St → Prop) (s : St) : wC Try.prog cx65 n65_10 Q s = wC Try.prog cx65 n65_11 (sqW (wC Try.prog cx65 n65_84) Q) s := yS _ _
theorem n65_9_eq (Q : Ex × St → Prop) (s : St) : wC Try.prog cx65 n65_9 Q s = wC Try.prog cx65 n65_10 (fun r => Q (inBlk 5 r)) s := yB 5 _
theorem n65_86_eq (Q : Ex × St → Prop) (s : St) : wC Try.prog cx65 n65_86 Q s = Q (.exit 0, s) := yX 0
theorem n65_85_eq (Q : Ex × St → Prop) (env : Env) (h : Heap) : wC Try.prog cx65 n65_85 Q ⟨env, h⟩ = (Evs (mFieldAddr tLhas (env.get 2) 1) fun v0 => Evs (stU .cell v0 (.bool true) h) fun r1 => wC Try.prog cx65 n65_86 Q ⟨env, r1.2⟩) := (ySR 20 (cOps (cL n65_85)) (cR n65_85)).trans (by
  refine w0 ?_
  refine wP 30 fun v0 => ?_
  refine wHn fun r1 => ?_
  exact wE)
theorem n65_8_eq (Q : Ex × St → Prop) (s : St) : wC Try.prog cx65 n65_8 Q s = wC Try.prog cx65 n65_9 (sqW (wC Try.prog cx65 n65_85) Q) s := yS _ _
theorem n65_7_eq (Q : Ex × St → Prop) (s : St) : wC Try.prog cx65 n65_7 Q s = wC Try.prog cx65 n65_8 (fun r => Q (inBlk 6 r)) s := yB 6 _
theorem n65_88_eq (Q : Ex × St → Prop) (s : St) : wC Try.prog cx65 n65_88 Q s = Q (.exit 0, s) := yX 0
theorem n65_87_eq (Q : Ex × St → Prop) (env : Env) (h : Heap) : wC Try.prog cx65 n65_87 Q ⟨env, h⟩ = (Evs (mFieldAddr tLhas (env.get 2) 3) fun v0 => Evs (stU .cell v0 (.bool true) h) fun r1 => wC Try.prog cx65 n65_88 Q ⟨env, r1.2⟩) := (ySR 21 (cOps (cL n65_87)) (cR n65_87)).trans (by
  refine w0 ?_
  refine wP 31 fun v0 => ?_
  refine wHn fun r1 => ?_
  exact wE)
theorem n65_6_eq (Q : Ex × St → Prop) (s : St) : wC Try.prog cx65 n65_6 Q s = wC Try.prog cx65 n65_7 (sqW (wC Try.prog cx65 n65_87) Q) s := yS _ _
theorem n65_5_eq (Q : Ex × St → Prop) (s : St) : wC Try.prog cx65 n65_5 Q s = wC Try.prog cx65 n65_6 (fun r => Q (inBlk 7 r)) s := yB 7 _
theorem n65_90_eq (Q : Ex × St → Prop) (s : St) : wC Try.prog cx65 n65_90 Q s = Q (.exit 0, s) := yX 0
theorem n65_89_eq (Q : Ex × St → Prop) (env : Env) (h : Heap) : wC Try.prog cx65 n65_89 Q ⟨env, h⟩ = (Evs (mFieldAddr tLhas (env.get 2) 4) fun v0 => Evs (stU .cell v0 (.bool true) h) fun r1 => wC Try.prog cx65 n65_90 Q ⟨env, r1.2⟩) := (ySR 22 (cOps (cL n65_89)) (cR n65_89)).trans (by
  refine w0 ?_
  refine wP 32 fun v0 => ?_
  refine wHn fun r1 => ?_
  exact wE)
theorem n65_4_eq (Q : Ex × St → Prop) (s : St) : wC Try.prog cx65 n65_4 Q s = wC Try.prog cx65 n65_5 (sqW (wC Try.prog cx65 n65_89) Q) s := yS _ _
theorem n65_3_eq (Q : Ex × St → Prop) (s : St) : wC Try.prog cx65 n65_3 Q s = wC Try.prog cx65 n65_4 (fun r => Q (inBlk 0 r)) s := yB 0 _
theorem n65_2_eq (Q : Ex × St → Prop) (env : Env) (h : Heap) : wC Try.prog cx65 n65_2 Q ⟨env, h⟩ = ( wC Try.prog cx65 n65_3 Q ⟨(Env.put env 3 (env.get 0)), h⟩) := (ySR 1 (cOps (cL n65_2)) (cR n65_2)).trans (by
  refine w0 ?_
  refine wT 3 (env.get 0) ?_
  exact wE)
theorem n65_92_eq (Q : Ex × St → Prop) (s : St) : wC Try.prog cx65 n65_92 Q s = Q (.ret, s) := yE
theorem n65_91_eq (Q : Ex × St → Prop) (env : Env) (h : Heap) : wC Try.prog cx65 n65_91 Q ⟨env, h⟩ = (Evs (mLoad tLhas (env.get 2) h) fun v0 => Evs (stU tLhas (env.get 2) v0 h) fun r1 => wC Try.prog cx65 n65_92 Q ⟨env, r1.2⟩) := (ySR 23 (cOps (cL n65_91)) (cR n65_91)).trans (by
  refine w0 ?_
  refine wP 33 fun v0 => ?_
  refine wHn fun r1 => ?_
  exact wE)
theorem n65_1_eq (Q : Ex × St → Prop) (s : St) : wC Try.prog cx65 n65_1 Q s = wC Try.prog cx65 n65_2 (sqW (wC Try.prog cx65 n65_91) Q) s := yS _ _
theorem n65_0_eq (Q : Ex × St → Prop) (env : Env) (h : Heap) : wC Try.prog cx65 n65_0 Q ⟨env, h⟩ = (Evs (mNew tLhas (.node [(.bool false), (.bool false), (.bool false), (.bool false), (.bool false), (.bool false)]) h) fun r0 => wC Try.prog cx65 n65_1 Q ⟨(Env.put env 2 r0.1), r0.2⟩) := (ySR 0 (cOps (cL n65_0)) (cR n65_0)).trans (by
  refine w0 ?_
  refine wH 2 fun r0 => ?_
  exact wE)
theorem fn65 : Try.prog.funcs[65]? = some Try.f65 := by kernel_rfl
set_option maxHeartbeats 4000000 in
theorem q65 {a0 : AV} {h : Heap} {K : AV × Heap → Prop} (H : ∀ env : Env, env.get 0 = a0 → wC Try.prog cx65 n65_0 (retW (fun s => (bnd (mLoad tLhas (s.env.get 2) s.heap) fun v => bnd (some []) fun vs => some (v :: vs))) K) ⟨env, h⟩) : SpecQ Try.prog 65 [a0] h K :=
  bodyW_sound (C := cx65) TT_ok mixed_ok fn65 (by kernel_rfl) (show _ = some n65_0 by kernel_rfl) (by kernel_rfl) (by kernel_rfl) (of_decide_eq_true (by kernel_rfl)) ((show wC Try.prog cx65 n65_0 (retW (fun s => resAll cx65 s Try.f65.results.toList) K) ⟨env0 cx65 [a0], h⟩ = wC Try.prog cx65 n65_0 (retW (fun s => (bnd (mLoad tLhas (s.env.get 2) s.heap) fun v => bnd (some []) fun vs => some (v :: vs))) K) ⟨[(0, a0), (1, .junk), (2, .junk), (3, .junk), (4, .junk), (7, .junk), (10, .junk), (12, .junk), (15, .junk), (21, .junk), (23, .junk)], h⟩ by kernel_rfl).mpr (H [(0, a0), (1, .junk), (2, .junk), (3, .junk), (4, .junk), (7, .junk), (10, .junk), (12, .junk), (15, .junk), (21, .junk), (23, .junk)] rfl))
set_option maxHeartbeats 4000000 in
def sn65 := And.intro n65_23_eq (And.intro n65_24_eq (And.intro n65_22_eq (And.intro n65_21_eq (And.intro n65_26_eq (And.intro n65_27_eq (And.intro n65_25_eq (And.intro n65_20_eq (And.intro n65_32_eq (And.intro n65_33_eq (And.intro n65_31_eq (And.intro n65_30_eq (And.intro n65_35_eq (And.intro n65_36_eq (And.intro n65_34_eq (And.intro n65_29_eq (And.intro n65_40_eq (And.intro n65_41_eq (And.intro n65_39_eq (And.intro n65_38_eq (And.intro n65_46_eq (And.intro n65_47_eq (And.intro n65_45_eq (And.intro n65_44_eq (And.intro n65_49_eq (And.intro n65_50_eq (And.intro n65_48_eq (And.intro n65_43_eq (And.intro n65_55_eq (And.intro n65_58_eq (And.intro n65_61_eq (And.intro n65_64_eq (And.intro n65_65_eq (And.intro n65_63_eq (And.intro n65_62_eq (And.intro n65_60_eq (And.intro n65_59_eq (And.intro n65_57_eq (And.intro n65_56_eq (And.intro n65_54_eq (And.intro n65_53_eq (And.intro n65_67_eq (And.intro n65_68_eq (And.intro n65_66_eq (And.intro n65_52_eq (And.intro n65_72_eq (And.intro n65_73_eq (And.intro n65_71_eq (And.intro n65_70_eq (And.intro n65_76_eq (And.intro n65_77_eq (And.intro n65_75_eq (And.intro n65_74_eq (And.intro n65_69_eq (And.intro n65_51_eq (And.intro n65_42_eq (And.intro n65_37_eq (And.intro n65_28_eq (And.intro n65_19_eq (And.intro n65_78_eq (And.intro n65_18_eq (And.intro n65_17_eq (And.intro n65_80_eq (And.intro n65_79_eq (And.intro n65_16_eq (And.intro n65_15_eq (And.intro n65_81_eq (And.intro n65_14_eq (And.intro n65_13_eq (And.intro n65_83_eq (And.intro n65_82_eq (And.intro n65_12_eq (And.intro n65_11_eq (And.intro n65_84_eq (And.intro n65_10_eq (And.intro n65_9_eq (And.intro n65_86_eq (And.intro n65_85_eq (And.intro n65_8_eq (And.intro n65_7_eq (And.intro n65_88_eq (And.intro n65_87_eq (And.intro n65_6_eq (And.intro n65_5_eq (And.intro n65_90_eq (And.intro n65_89_eq (And.intro n65_4_eq (And.intro n65_3_eq (And.intro n65_2_eq (And.intro n65_92_eq (And.intro n65_91_eq (And.intro n65_1_eq (n65_0_eq))))))))))))))))))))))))))))))))))))))))))))))))))))))))))))))))))))))))))))))))))))))))))))
-- draws: 
end Go.Vab

/- How the code of a function is read. Printed by wip/tools/gen2.py (own work). -/
namespace Go.Vab
open Go Go.Proofs
/-! vestry/forms.MayAction -/
def cx44 : Ctx := ⟨fun _ _ _ => none, TT, 116, [5, 6, 7, 9, 10, 11, 12, 13, 14, 15, 16, 17, 18, 19, 20, 21, 22, 24, 25, 26, 27, 28, 29, 30, 31, 32, 33, 34, 35, 36, 37, 38, 39, 40, 41, 42, 43, 44, 45, 46, 47, 48, 49, 50, 51, 52, 53, 54, 55, 56, 57, 58, 59, 60, 61, 63, 64, 65, 66, 67, 68, 69, 70, 71, 72, 73, 74, 75, 76, 77, 78, 79, 80, 81, 82, 83, 84, 85, 86, 87, 88, 89, 90, 91, 92, 93, 94, 95, 96, 97, 98, 99, 100, 101, 102, 103, 104, 105, 106, 107, 108, 109, 110, 111, 112, 113, 114, 115]⟩
noncomputable def n44_0 : Code := bodyOf Try.f44
noncomputable def n44_1 : Code := cR n44_0
noncomputable def n44_2 : Code := cR n44_1
noncomputable def n44_3 : Code := cL n44_2
noncomputable def n44_4 : Code := cB n44_3
noncomputable def n44_5 : Code := cR n44_4
noncomputable def n44_6 : Code := cL n44_5
noncomputable def n44_7 : Code := cR n44_6
noncomputable def n44_8 : Code := cR n44_5
noncomputable def n44_9 : Code := cR n44_8
noncomputable def n44_10 : Code := cL n44_9
noncomputable def n44_11 : Code := cR n44_10
noncomputable def n44_12 : Code := cR n44_9
noncomputable def n44_13 : Code := cR n44_12
noncomputable def n44_14 : Code := cL n44_13
noncomputable def n44_15 : Code := cR n44_14
noncomputable def n44_16 : Code := cR n44_13
noncomputable def n44_17 : Code := cR n44_2
noncomputable def n44_18 : Code := cR n44_17
noncomputable def n44_19 : Code := cR n44_18
theorem n44_7_eq (Q : Ex × St → Prop) (s : St) : wC Try.prog cx44 n44_7 Q s = Q (.ret, s) := yE
theorem n44_6_eq (Q : Ex × St → Prop) (env : Env) (h : Heap) : wC Try.prog cx44 n44_6 Q ⟨env, h⟩ = ( wC Try.prog cx44 n44_7 Q ⟨(Env.put env 2 (.bool false)), h⟩) := (ySR 3 (cOps (cL n44_6)) (cR n44_6)).trans (by
  refine w0 ?_
  refine wT 2 (.bool false) ?_
  exact wE)
theorem n44_11_eq (Q : Ex × St → Prop) (s : St) : wC Try.prog cx44 n44_11 Q s = Q (.ret, s) := yE
theorem n44_10_eq (Q : Ex × St → Prop) (env : Env) (h : Heap) : wC Try.prog cx44 n44_10 Q ⟨env, h⟩ = ( wC Try.prog cx44 n44_11 Q ⟨(Env.put env 2 (.bool false)), h⟩) := (ySR 5 (cOps (cL n44_10)) (cR n44_10)).trans (by
  refine w0 ?_
  refine wT 2 (.bool false) ?_
  exact wE)
theorem n44_15_eq (Q : Ex × St → Prop) (s : St) : wC Try.prog cx44 n44_15 Q s = Q (.ret, s) := yE
theorem n44_14_eq (Q : Ex × St → Prop) (env : Env) (h : Heap) : wC Try.prog cx44 n44_14 Q ⟨env, h⟩ = ( wC Try.prog cx44 n44_15 Q ⟨(Env.put env 2 (.bool false)), h⟩) := (ySR 7 (cOps (cL n44_14)) (cR n44_14)).trans (by
  refine w0 ?_
  refine wT 2 (.bool false) ?_
  exact wE)
theorem n44_16_eq (Q : Ex × St → Prop) (s : St) : wC Try.prog cx44 n44_16 Q s = Q (.nrm, s) := yK
theorem n44_13_eq (Q : Ex × St → Prop) (s : St) : wC Try.prog cx44 n44_13 Q s = cndW (s.env.get 62) (wL Try.prog cx44 n44_14 Q s) (wL Try.prog cx44 n44_16 Q s) := yC 62 _ _
theorem n44_12_eq (Q : Ex × St → Prop) (env : Env) (h : Heap) : wC Try.prog cx44 n44_12 Q ⟨env, h⟩ = (Evs (mFieldAddr tLhas (env.get 3) 3) fun v0 => Evs (mLoad .cell v0 h) fun v1 => Evs (mUn .not v1) fun v2 => Evs (gv v2 true (mFieldAddr tAction (env.get 1) 5)) fun v4 => Evs (gv v2 true (mLoad .cell v4 h)) fun v5 => Evs (gv v2 true (mLenS v5)) fun v6 => Evs (gv v2 true (mBin .gtr v6 (nat 0))) fun v7 => Evs (mPick v2 v7 (.bool false)) fun v8 => Evs (gv v8 false (mFieldAddr tLhas (env.get 3) 4)) fun v10 => Evs (gv v8 false (mLoad .cell v10 h)) fun v11 => Evs (gv v8 false (some v11)) fun v12 => Evs (gv v12 true (mFieldAddr tAction (env.get 1) 6)) fun v13 => Evs (gv v12 true (mLoad tAccess v13 h)) fun v14 => gW v12 true (SpecA Try.prog 49 [v14] h) h fun r15 => Evs (gv v12 true (mUn .not r15.1)) fun v16 => Evs (gv v8 false (mPick v12 v16 (.bool false))) fun v17 => Evs (mPick v8 (.bool true) v17) fun v18 => Evs (gv v18 false (mFieldAddr tLhas (env.get 3) 4)) fun v20 => Evs (gv v18 false (mLoad .cell v20 r15.2)) fun v21 => Evs (gv v18 false (mUn .not v21)) fun v22 => Evs (gv v18 false (some v22)) fun v23 => Evs (gv v23 true (mFieldAddr tAction (env.get 1) 6)) fun v24 => Evs (gv v23 true (mLoad tAccess v24 r15.2)) fun v25 => Evs (gv v23 true (fillRow tAccess (.node [(u8 0#8), (u8 0#8), (u8 0#8)]) [])) fun v26 => Evs (gv v23 true (mEq tAccess .neq v25 v26)) fun v27 => Evs (gv v18 false (mPick v23 v27 (.bool false))) fun v28 => Evs (mPick v18 (.bool true) v28) fun v29 => wC Try.prog cx44 n44_13 Q ⟨(Env.put env 62 v29), r15.2⟩) := (ySR 6 (cOps (cL n44_12)) (cR n44_12)).trans (by
  refine w0 ?_
  refine wP 63 fun v0 => ?_
  refine wP 64 fun v1 => ?_
  refine wP 65 fun v2 => ?_
  refine wT 66 v2 ?_
  refine wG 67 fun v4 => ?_
  refine wG 68 fun v5 => ?_
  refine wG 69 fun v6 => ?_
  refine wG 70 fun v7 => ?_
  refine wP 71 fun v8 => ?_
  refine wT 72 v8 ?_
  refine wG 73 fun v10 => ?_
  refine wG 74 fun v11 => ?_
  refine wG 75 fun v12 => ?_
  refine wG 76 fun v13 => ?_
  refine wG 77 fun v14 => ?_
  refine wH 78 fun r15 => ?_
  refine wG 79 fun v16 => ?_
  refine wG 80 fun v17 => ?_
  refine wP 81 fun v18 => ?_
  refine wT 82 v18 ?_
  refine wG 83 fun v20 => ?_
  refine wG 84 fun v21 => ?_
  refine wG 85 fun v22 => ?_
  refine wG 86 fun v23 => ?_
  refine wG 87 fun v24 => ?_
  refine wG 88 fun v25 => ?_
  refine wG 89 fun v26 => ?_
  refine wG 90 fun v27 => ?_
  refine wG 91 fun v28 => ?_
  refine wP 92 fun v29 => ?_
  refine wT 62 v29 ?_
  exact wE)
theorem n44_9_eq (Q : Ex × St → Prop) (s : St) : wC Try.prog cx44 n44_9 Q s = cndW (s.env.get 23) (wL Try.prog cx44 n44_10 Q s) (wL Try.prog cx44 n44_12 Q s) := yC 23 _ _
theorem n44_8_ok : treeOk (cOps (cL n44_8)).toList [] [0, 1, 3, 7, 15, 31, 15, 127, 255, 511, 1023, 2047, 4095, 8191, 16383, 32767, 16383, 131071, 262143, 524287, 1048575, 2097151, 4194303, 2097151, 10485759, 27262975, 67108863, 134217727, 268435455, 536870911, 1073741823, 2147483647, 4294967295, 8589934591, 17179869183, 34359738367, 68719476735, 137438953471, 274877906943] = true := by kernel_rfl
theorem n44_8_w (Q : Ex × St → Prop) (env : Env) (h : Heap) (H : Evs (mFieldAddr tLhas (env.get 3) 0) fun v0_1 => Evs (mLoad .cell v0_1 h) fun v1_2 => Evs (mUn .not v1_2) fun v2_3 => Evs (gv v2_3 true (mFieldAddr tAction (env.get 1) 2)) fun v4_4 => Evs (gv v2_3 true (mLoad tCipher v4_4 h)) fun v5_5 => Evs (gv v2_3 true (fillRow tCipher (.node [(arr 32 fun _ => 0#8), (arr 32 fun _ => 0#8)]) [])) fun v6_6 => Evs (gv v2_3 true (mEq tCipher .neq v5_5 v6_6)) fun v7_7 => Evs (mPick v2_3 v7_7 (.bool false)) fun v8_8 => Evs (gv v8_8 false (mFieldAddr tLhas (env.get 3) 1)) fun v10_9 => Evs (gv v8_8 false (mLoad .cell v10_9 h)) fun v11_10 => Evs (gv v8_8 false (mUn .not v11_10)) fun v12_11 => Evs (gv v8_8 false (some v12_11)) fun v13_12 => Evs (gv v13_12 true (mFieldAddr tAction (env.get 1) 3)) fun v14_13 => Evs (gv v13_12 true (mLoad (.arr 32 (.int .u8)) v14_13 h)) fun v15_14 => Evs (gv v13_12 true (fillRow (.arr 32 (.int .u8)) (arr 32 fun _ => 0#8) [])) fun v16_15 => Evs (gv v13_12 true (mEq (.arr 32 (.int .u8)) .neq v15_14 v16_15)) fun v17_16 => Evs (gv v8_8 false (mPick v13_12 v17_16 (.bool false))) fun v18_17 => Evs (mPick v8_8 (.bool true) v18_17) fun v19_18 => Evs (gv v19_18 false (mFieldAddr tLhas (env.get 3) 2)) fun v21_19 => Evs (gv v19_18 false (mLoad .cell v21_19 h)) fun v22_20 => Evs (gv v19_18 false (mFieldAddr tAction (env.get 1) 4)) fun v23_21 => Evs (gv v19_18 false (mLoad (.int .u8) v23_21 h)) fun v24_22 => ValW (gW v19_18 false (SpecA Try.prog 60 [v24_22] h) h) h fun v25_23 => Evs (gv v19_18 false (mBinB .neq v22_20 v25_23)) fun v26_24 => Evs (mPick v19_18 (.bool true) v26_24) fun v27_25 => Evs (gv v27_25 false (mFieldAddr tLhas (env.get 3) 2)) fun v29_26 => Evs (gv v27_25 false (mLoad .cell v29_26 h)) fun v30_27 => Evs (gv v27_25 false (mUn .not v30_27)) fun v31_28 => Evs (gv v27_25 false (some v31_28)) fun v32_29 => Evs (gv v32_29 true (mFieldAddr tAction (env.get 1) 4)) fun v33_30 => Evs (gv v32_29 true (mLoad (.int .u8) v33_30 h)) fun v34_31 => Evs (gv v32_29 true (mBin .neq v34_31 (u8 0#8))) fun v35_32 => Evs (gv v27_25 false (mPick v32_29 v35_32 (.bool false))) fun v36_33 => Evs (mPick v27_25 (.bool true) v36_33) fun v37_34 => wC Try.prog cx44 n44_9 Q ⟨(Env.put env 23 v37_34), h⟩) : wC Try.prog cx44 n44_8 Q ⟨env, h⟩ := by
  refine ySD 4 (cOps (cL n44_8)) (cR n44_8) [] [0, 1, 3, 7, 15, 31, 15, 127, 255, 511, 1023, 2047, 4095, 8191, 16383, 32767, 16383, 131071, 262143, 524287, 1048575, 2097151, 4194303, 2097151, 10485759, 27262975, 67108863, 134217727, 268435455, 536870911, 1073741823, 2147483647, 4294967295, 8589934591, 17179869183, 34359738367, 68719476735, 137438953471, 274877906943] [0, 1, 2, 3, 4, 5, 6, 7, 8, 9, 10, 11, 12, 13, 14, 15, 16, 17, 18, 19, 20, 21, 22, 23, 24, 25, 26, 27, 28, 29, 30, 31, 32, 33, 34, 35, 36, 37, 38] n44_8_ok ?_
  refine rP H 24 fun v0_1 H => ?_
  refine rP H 25 fun v1_2 H => ?_
  refine rP H 26 fun v2_3 H => ?_
  refine rT 27 v2_3 ?_
  refine rG H 28 fun v4_4 H => ?_
  refine rG H 29 fun v5_5 H => ?_
  refine rG H 30 fun v6_6 H => ?_
  refine rG H 31 fun v7_7 H => ?_
  refine rP H 32 fun v8_8 H => ?_
  refine rT 33 v8_8 ?_
  refine rG H 34 fun v10_9 H => ?_
  refine rG H 35 fun v11_10 H => ?_
  refine rG H 36 fun v12_11 H => ?_
  refine rG H 37 fun v13_12 H => ?_
  refine rG H 38 fun v14_13 H => ?_
  refine rG H 39 fun v15_14 H => ?_
  refine rG H 40 fun v16_15 H => ?_
  refine rG H 41 fun v17_16 H => ?_
  refine rG H 42 fun v18_17 H => ?_
  refine rP H 43 fun v19_18 H => ?_
  refine rT 44 v19_18 ?_
  refine rG H 45 fun v21_19 H => ?_
  refine rG H 46 fun v22_20 H => ?_
  refine rG H 47 fun v23_21 H => ?_
  refine rG H 48 fun v24_22 H => ?_
  refine rF H 49 (fun v25_23 H => ?_)
  refine rG H 50 fun v26_24 H => ?_
  refine rP H 51 fun v27_25 H => ?_
  refine rT 52 v27_25 ?_
  refine rG H 53 fun v29_26 H => ?_
  refine rG H 54 fun v30_27 H => ?_
  refine rG H 55 fun v31_28 H => ?_
  refine rG H 56 fun v32_29 H => ?_
  refine rG H 57 fun v33_30 H => ?_
  refine rG H 58 fun v34_31 H => ?_
  refine rG H 59 fun v35_32 H => ?_
  refine rG H 60 fun v36_33 H => ?_
  refine rP H 61 fun v37_34 H => ?_
  refine rT 23 v37_34 ?_
  refine rE ?_
  exact tE H
theorem n44_5_eq (Q : Ex × St → Prop) (s : St) : wC Try.prog cx44 n44_5 Q s = cndW (s.env.get 8) (wL Try.prog cx44 n44_6 Q s) (wL Try.prog cx44 n44_8 Q s) := yC 8 _ _
theorem n44_4_eq (Q : Ex × St → Prop) (env : Env) (h : Heap) : wC Try.prog cx44 n44_4 Q ⟨env, h⟩ = (Evs (mFieldAddr tAction (env.get 1) 1) fun v0 => Evs (mLoad (.int .u8) v0 h) fun v1 => Evs (mBin .lss v1 (u8 1#8)) fun v2 => Evs (gv v2 false (mFieldAddr tAction (env.get 1) 1)) fun v4 => Evs (gv v2 false (mLoad (.int .u8) v4 h)) fun v5 => Evs (gv v2 false (mBin .gtr v5 (u8 18#8))) fun v6 => Evs (mPick v2 (.bool true) v6) fun v7 => Evs (gv v7 false (mFieldAddr tAction (env.get 1) 5)) fun v9 => Evs (gv v7 false (mLoad .cell v9 h)) fun v10 => Evs (gv v7 false (mLenS v10)) fun v11 => Evs (gv v7 false (mBin .gtr v11 (nat 200))) fun v12 => Evs (mPick v7 (.bool true) v12) fun v13 => wC Try.prog cx44 n44_5 Q ⟨(Env.put env 8 v13), h⟩) := (ySR 2 (cOps (cL n44_4)) (cR n44_4)).trans (by
  refine w0 ?_
  refine wP 9 fun v0 => ?_
  refine wP 10 fun v1 => ?_
  refine wP 11 fun v2 => ?_
  refine wT 12 v2 ?_
  refine wG 13 fun v4 => ?_
  refine wG 14 fun v5 => ?_
  refine wG 15 fun v6 => ?_
  refine wP 16 fun v7 => ?_
  refine wT 17 v7 ?_
  refine wG 18 fun v9 => ?_
  refine wG 19 fun v10 => ?_
  refine wG 20 fun v11 => ?_
  refine wG 21 fun v12 => ?_
  refine wP 22 fun v13 => ?_
  refine wT 8 v13 ?_
  exact wE)
theorem n44_3_eq (Q : Ex × St → Prop) (s : St) : wC Try.prog cx44 n44_3 Q s = wC Try.prog cx44 n44_4 (fun r => Q (inBlk 0 r)) s := yB 0 _
theorem n44_19_eq (Q : Ex × St → Prop) (s : St) : wC Try.prog cx44 n44_19 Q s = Q (.ret, s) := yE
theorem n44_18_eq (Q : Ex × St → Prop) (env : Env) (h : Heap) : wC Try.prog cx44 n44_18 Q ⟨env, h⟩ = (Evs (mBin .eql (env.get 4) (nat 0)) fun v1 => Evs (gv v1 true (mFieldAddr tLhas (env.get 3) 5)) fun v3 => Evs (gv v1 true (mLoad .cell v3 h)) fun v4 => Evs (gv v1 true (mUn .not v4)) fun v5 => Evs (gv v1 true (some v5)) fun v6 => Evs (gv v6 false (mFieldAddr tAction (env.get 1) 1)) fun v7 => Evs (gv v6 false (mLoad (.int .u8) v7 h)) fun v8 => Evs (gv v6 false (mBin .eql v8 (u8 18#8))) fun v9 => Evs (gv v1 true (mPick v6 (.bool true) v9)) fun v10 => Evs (mPick v1 v10 (.bool false)) fun v11 => Evs (gv v11 false (some (env.get 4))) fun v13 => Evs (gv v11 false (mBin .eql v13 (nat 16))) fun v14 => Evs (gv v11 false (some v14)) fun v15 => Evs (gv v15 true (mFieldAddr tLhas (env.get 3) 5)) fun v16 => Evs (gv v15 true (mLoad .cell v16 h)) fun v17 => Evs (gv v11 false (mPick v15 v17 (.bool false))) fun v18 => Evs (mPick v11 (.bool true) v18) fun v19 => wC Try.prog cx44 n44_19 Q ⟨(Env.put env 2 v19), h⟩) := (ySR 9 (cOps (cL n44_18)) (cR n44_18)).trans (by
  refine w0 ?_
  refine wT 96 (env.get 4) ?_
  refine wP 97 fun v1 => ?_
  refine wT 98 v1 ?_
  refine wG 99 fun v3 => ?_
  refine wG 100 fun v4 => ?_
  refine wG 101 fun v5 => ?_
  refine wG 102 fun v6 => ?_
  refine wG 103 fun v7 => ?_
  refine wG 104 fun v8 => ?_
  refine wG 105 fun v9 => ?_
  refine wG 106 fun v10 => ?_
  refine wP 107 fun v11 => ?_
  refine wT 108 v11 ?_
  refine wG 109 fun v13 => ?_
  refine wG 110 fun v14 => ?_
  refine wG 111 fun v15 => ?_
  refine wG 112 fun v16 => ?_
  refine wG 113 fun v17 => ?_
  refine wG 114 fun v18 => ?_
  refine wP 115 fun v19 => ?_
  refine wT 2 v19 ?_
  exact wE)
theorem n44_17_eq (Q : Ex × St → Prop) (env : Env) (h : Heap) : wC Try.prog cx44 n44_17 Q ⟨env, h⟩ = (Evs (mFieldAddr tAction (env.get 1) 7) fun v0 => Evs (mLoad .cell v0 h) fun v1 => Evs (mLenS v1) fun v2 => wC Try.prog cx44 n44_18 Q ⟨(Env.put env 4 v2), h⟩) := (ySR 8 (cOps (cL n44_17)) (cR n44_17)).trans (by
  refine w0 ?_
  refine wP 93 fun v0 => ?_
  refine wP 94 fun v1 => ?_
  refine wP 95 fun v2 => ?_
  refine wT 4 v2 ?_
  exact wE)
theorem n44_2_eq (Q : Ex × St → Prop) (s : St) : wC Try.prog cx44 n44_2 Q s = wC Try.prog cx44 n44_3 (sqW (wC Try.prog cx44 n44_17) Q) s := yS _ _
theorem n44_1_eq (Q : Ex × St → Prop) (env : Env) (h : Heap) : wC Try.prog cx44 n44_1 Q ⟨env, h⟩ = (Evs (mFieldAddr tAction (env.get 1) 1) fun v0 => Evs (mLoad (.int .u8) v0 h) fun v1 => SpecA Try.prog 65 [v1] h fun r2 => Evs (mNew tLhas (.node [(.bool false), (.bool false), (.bool false), (.bool false), (.bool false), (.bool false)]) r2.2) fun r3 => Evs (stU tLhas r3.1 r2.1 r3.2) fun r4 => wC Try.prog cx44 n44_2 Q ⟨(Env.put env 3 r3.1), r4.2⟩) := (ySR 1 (cOps (cL n44_1)) (cR n44_1)).trans (by
  refine w0 ?_
  refine wP 5 fun v0 => ?_
  refine wP 6 fun v1 => ?_
  refine wH 7 fun r2 => ?_
  refine wH 3 fun r3 => ?_
  refine wHn fun r4 => ?_
  exact wE)
theorem n44_0_eq (Q : Ex × St → Prop) (env : Env) (h : Heap) : wC Try.prog cx44 n44_0 Q ⟨env, h⟩ = (Evs (mNew tAction (env.get 0) h) fun r0 => wC Try.prog cx44 n44_1 Q ⟨(Env.put (Env.put env 1 r0.1) 2 (.bool false)), r0.2⟩) := (ySR 0 (cOps (cL n44_0)) (cR n44_0)).trans (by
  refine w0 ?_
  refine wH 1 fun r0 => ?_
  refine wT 2 (.bool false) ?_
  exact wE)
theorem fn44 : Try.prog.funcs[44]? = some Try.f44 := by kernel_rfl
theorem q44 {a0 : AV} {h : Heap} {K : AV × Heap → Prop} (H : ∀ env : Env, env.get 0 = a0 → wC Try.prog cx44 n44_0 (retW (fun s => (bnd (some (s.env.get 2)) fun v => bnd (some []) fun vs => some (v :: vs))) K) ⟨env, h⟩) : SpecQ Try.prog 44 [a0] h K :=
  bodyW_sound (C := cx44) TT_ok mixed_ok fn44 (by kernel_rfl) (show _ = some n44_0 by kernel_rfl) (by kernel_rfl) (by kernel_rfl) (of_decide_eq_true (by kernel_rfl)) ((show wC Try.prog cx44 n44_0 (retW (fun s => resAll cx44 s Try.f44.results.toList) K) ⟨env0 cx44 [a0], h⟩ = wC Try.prog cx44 n44_0 (retW (fun s => (bnd (some (s.env.get 2)) fun v => bnd (some []) fun vs => some (v :: vs))) K) ⟨[(0, a0), (1, .junk), (2, .junk), (3, .junk), (4, .junk), (8, .junk), (23, .junk), (62, .junk)], h⟩ by kernel_rfl).mpr (H [(0, a0), (1, .junk), (2, .junk), (3, .junk), (4, .junk), (8, .junk), (23, .junk), (62, .junk)] rfl))
def sn44 := And.intro n44_7_eq (And.intro n44_6_eq (And.intro n44_11_eq (And.intro n44_10_eq (And.intro n44_15_eq (And.intro n44_14_eq (And.intro n44_16_eq (And.intro n44_13_eq (And.intro n44_12_eq (And.intro n44_9_eq (And.intro n44_5_eq (And.intro n44_4_eq (And.intro n44_3_eq (And.intro n44_19_eq (And.intro n44_18_eq (And.intro n44_17_eq (And.intro n44_2_eq (And.intro n44_1_eq (n44_0_eq))))))))))))))))))
-- draws: n44_8
end Go.Vab

/-
  What may be, walked: role, mayAccess, fields, MayAction.
-/
namespace Go.Vab
open Go Go.Proofs

theorem c60 {h : Heap} {r : BitVec 8} : SpecQ Try.prog 60 [u8 r] h fun x => x = (.bool (roleOk r), h) := by
  refine SpecQ.drop1 rfl (q60 fun env g0 => ?_)
  repeat' (first
    | ((with_reducible apply evs_of); (focus ((conv => lhs; simp (disch := omega) [g0]); done)); try dsimp only)
    | (simp (decide := true) only [sn60, sqW_nrm, sqW_exit, sqW_ret, inBlk_nrm, inBlk_ret, inBlk_same, inBlk_exit, if_true, if_false, retW_nrm, retW_ret])
    | (with_reducible refine gv_split ?_ ?_ <;> (intro hb; try simp only [Bool.not_true, Bool.not_false] at hb) <;> try simp only [hb]))
  all_goals refine fin_b0 ?_
  all_goals (unfold roleOk; simp_all)

theorem c49 {h : Heap} {a : Acc} : SpecQ Try.prog 49 [eAcc a] h fun x => x = (.bool (accOk a), h) := by
  refine SpecQ.drop1 rfl (q49 fun env g0 => ?_)
  repeat' (first
    | ((with_reducible apply evs_of); (focus ((conv => lhs; simp (disch := omega) [g0]); done)); try dsimp only)
    | ((with_reducible apply gW_do); (focus (simp (disch := omega) [g0]; done)))
    | ((with_reducible apply gW_no); (focus (simp (disch := omega) [g0]; done)); try dsimp only)
    | ((with_reducible apply gW_un); (focus (simp (disch := omega) [g0]; done)); try dsimp only)
    | (with_reducible refine SpecQ.step (c60) ?_; rintro _ rfl; try dsimp only)
    | ((with_reducible apply SpecA_i); (focus ((conv => lhs; simp (disch := omega) [g0]); done)))
    | (simp (decide := true) only [sn49, sqW_nrm, sqW_exit, sqW_ret, inBlk_nrm, inBlk_ret, inBlk_same, inBlk_exit, if_true, if_false, retW_nrm, retW_ret])
    | (with_reducible refine gv_split ?_ ?_ <;> (intro hb; try simp only [Bool.not_true, Bool.not_false] at hb) <;> try simp only [hb])
    | (with_reducible refine gW_split ?_ ?_ <;> (intro hb; try simp only [Bool.not_true, Bool.not_false] at hb) <;> try simp only [hb]))
  all_goals refine fin_b ?_
  all_goals (unfold accOk; simp_all)

set_option maxHeartbeats 2000000 in
theorem c65 {h : Heap} {k : BitVec 8} : SpecQ Try.prog 65 [u8 k] h fun x => x = (hasV k, h) := by
  refine SpecQ.drop1 rfl (q65 fun env g0 => ?_)
  repeat' (first
    | ((with_reducible apply evs_of); (focus ((conv => lhs; simp (disch := omega) [g0]); done)); try dsimp only)
    | ((with_reducible apply cndW_T); (focus (simp (disch := omega) [g0] <;> omega)))
    | ((with_reducible apply cndW_F); (focus (simp (disch := omega) [g0] <;> omega)))
    | (with_reducible apply wL_i)
    | (simp (decide := true) only [sn65, sqW_nrm, sqW_exit, sqW_ret, inBlk_nrm, inBlk_ret, inBlk_same, inBlk_exit, if_true, if_false, retW_nrm, retW_ret])
    | ((with_reducible apply cndW_splitE); (focus ((conv => lhs; simp (disch := omega) [g0]); done)); all_goals ((intro hb; try simp only [Bool.not_true, Bool.not_false] at hb); try simp only [hb]))
    | (with_reducible refine cndW_split ?_ ?_ <;> (intro hb; try simp only [Bool.not_true, Bool.not_false] at hb) <;> try simp only [hb]))
  all_goals refine fin_v ?_
  all_goals (unfold hasV; simp only [decide_eq_true_eq, decide_eq_false_iff_not] at *; first | (subst_vars; rfl) | (simp_all [hW, hE, hR, hT, hA, hP]; done))

set_option maxHeartbeats 2000000 in
theorem c44 {h : Heap} {a : Actn} {vt vp : AV} (ra : ActR h a vt vp) : SpecQ Try.prog 44 [eAct a vt vp] h fun x => x = (.bool (mayA a), h) := by
  have ta := ra.cells
  have l1 := ra.t.len
  have l2 := ra.p.len
  refine SpecQ.drop1 rfl (q44 fun env g0 => ?_)
  repeat' (first
    | ((with_reducible apply evs_of); (focus ((conv => lhs; simp (disch := omega) [g0, ta, l1, l2, hasV]); done)); try dsimp only)
    | ((with_reducible apply gW_do); (focus (simp (disch := omega) [g0, ta, l1, l2, hasV]; done)))
    | ((with_reducible apply gW_no); (focus (simp (disch := omega) [g0, ta, l1, l2, hasV]; done)); try dsimp only)
    | ((with_reducible apply gW_un); (focus (simp (disch := omega) [g0, ta, l1, l2, hasV]; done)); try dsimp only)
    | ((with_reducible apply cndW_T); (focus (simp (disch := omega) [g0, ta, l1, l2, hasV] <;> omega)))
    | ((with_reducible apply cndW_F); (focus (simp (disch := omega) [g0, ta, l1, l2, hasV] <;> omega)))
    | (with_reducible apply wL_i)
    | ((with_reducible apply ValW_do); (focus (simp (disch := omega) [g0, ta, l1, l2, hasV]; done)); try dsimp only)
    | ((with_reducible apply ValW_no); (focus (simp (disch := omega) [g0, ta, l1, l2, hasV]; done)); try dsimp only)
    | ((with_reducible apply ValW_un); (focus (simp (disch := omega) [g0, ta, l1, l2, hasV]; done)); try dsimp only)
    | (with_reducible refine ValW_i (c65) ?_; try dsimp only)
    | (with_reducible refine SpecQ.step (c65) ?_; rintro _ rfl; try dsimp only)
    | (with_reducible refine ValW_i (c60) ?_; try dsimp only)
    | (with_reducible refine SpecQ.step (c60) ?_; rintro _ rfl; try dsimp only)
    | (with_reducible refine ValW_i (c49) ?_; try dsimp only)
    | (with_reducible refine SpecQ.step (c49) ?_; rintro _ rfl; try dsimp only)
    | ((with_reducible apply SpecA_i); (focus ((conv => lhs; simp (disch := omega) [g0, ta, l1, l2, hasV]); done)))
    | ((with_reducible apply ValA_i); (focus ((conv => lhs; simp (disch := omega) [g0, ta, l1, l2, hasV]); done)))
    | ((with_reducible apply ValA_fn); (focus ((conv => lhs; simp (disch := omega) [g0, ta, l1, l2, hasV]); done)))
    | (simp (decide := true) only [sn44, sqW_nrm, sqW_exit, sqW_ret, inBlk_nrm, inBlk_ret, inBlk_same, inBlk_exit, if_true, if_false, retW_nrm, retW_ret])
    | (with_reducible refine n44_8_w _ _ _ ?_)
    | ((with_reducible apply cndW_splitE); (focus ((conv => lhs; simp (disch := omega) [g0, ta, l1, l2, hasV]); done)); all_goals ((intro hb; try simp only [Bool.not_true, Bool.not_false] at hb); try simp only [hb]))
    | (with_reducible refine gv_split ?_ ?_ <;> (intro hb; try simp only [Bool.not_true, Bool.not_false] at hb) <;> try simp only [hb])
    | (with_reducible refine gW_split ?_ ?_ <;> (intro hb; try simp only [Bool.not_true, Bool.not_false] at hb) <;> try simp only [hb])
    | (with_reducible refine cndW_split ?_ ?_ <;> (intro hb; try simp only [Bool.not_true, Bool.not_false] at hb) <;> try simp only [hb])
    | (with_reducible refine ValW_split ?_ ?_ <;> (intro hb; try simp only [Bool.not_true, Bool.not_false] at hb) <;> try simp only [hb]))
  all_goals refine fin_b ?_
  all_goals (clear ra ta l1 l2 g0; unfold mayA; simp_all)

end Go.Vab

/-
  A writer: bytes that grow by append, in a cell of its own.
-/
namespace Go.Vab
open Go

/-- The row behind a writer: nothing, or a block of its own. -/
def Rx (h : Heap) (wc : Nat) (x : AV) (l : Bs) : Prop := l.length ≤ 1099511627776 ∧ ((x = .nilslice ∧ l = []) ∨
  ∃ b c g, x = .slice b 0 [] (.int .u8) 0 l.length (some c) ∧ h[b]? = some ⟨arr c g, 0, .own⟩ ∧ b ≠ wc ∧ l.length ≤ c ∧ ∀ i, i < l.length → g i = l.g i)
def rb : AV → Option Nat
  | .slice b _ _ _ _ _ _ => some b
  | _ => none
def wV (x : AV) : AV := .node [.node [x, nat 0]]
/-- A writer, and what is written. -/
def Wx (h : Heap) (wc : Nat) (x : AV) (l : Bs) : Prop := h[wc]? = some ⟨wV x, 0, .own⟩ ∧ Rx h wc x l
/-- All but a writer stays. -/
structure KeepW (h h' : Heap) (wc : Nat) (x x' : AV) : Prop where
  len : h.length ≤ h'.length
  keep : ∀ i c, h[i]? = some c → i ≠ wc → rb x ≠ some i → h'[i]? = some c
  row : ∀ b, rb x' = some b → rb x = some b ∨ h.length ≤ b

theorem KeepW.refl (h : Heap) (wc : Nat) (x : AV) : KeepW h h wc x x := ⟨Nat.le_refl _, fun _ _ h _ _ => h, fun _ h => .inl h⟩
theorem KeepW.trans {h h' h'' : Heap} {wc : Nat} {x x' x'' : AV} (k : KeepW h h' wc x x') (k' : KeepW h' h'' wc x' x'') : KeepW h h'' wc x x'' where
  len := Nat.le_trans k.len k'.len
  keep i c hi hw hx := k'.keep i c (k.keep i c hi hw hx) hw fun e => by
    rcases k.row i e with h1 | h1
    · exact hx h1
    · have := (List.getElem?_eq_some_iff.1 hi).1
      omega
  row b hb := by
    rcases k'.row b hb with h1 | h1
    · exact k.row b h1
    · exact .inr (Nat.le_trans k.len h1)

theorem Rx.byt {h : Heap} {wc : Nat} {x : AV} {l : Bs} (hr : Rx h wc x l) : BytL h x l := by
  obtain ⟨hl, h1 | h1⟩ := hr
  · obtain ⟨rfl, rfl⟩ := h1
    exact BytL.nil _
  · obtain ⟨b, c, g, rfl, h2, h3, h4, h5⟩ := h1
    refine ⟨⟨?_, rfl, h4, rfl⟩, by omega⟩
    rw [mElems_slc]
    have : blkAt h b 0 = some ⟨arr c g, 0, .own⟩ := by unfold blkAt; rw [h2]; rfl
    rw [this]
    simp only [bnd_some, get_nil, arr_cut, Nat.zero_add, h4, if_true]
    congr 1
    exact arr_congr h5

theorem Rx.cell {h : Heap} {wc : Nat} {x : AV} {l : Bs} (hr : Rx h wc x l) : hasTy x .cell = true := hr.byt.cell

theorem Rx.mono {h h' : Heap} {wc : Nat} {x : AV} {l : Bs} (hr : Rx h wc x l) (hk : ∀ b c, rb x = some b → h[b]? = some c → h'[b]? = some c) : Rx h' wc x l := by
  obtain ⟨hl, h1 | h1⟩ := hr
  · exact ⟨hl, .inl h1⟩
  · obtain ⟨b, c, g, rfl, h2, h3⟩ := h1
    exact ⟨hl, .inr ⟨b, c, g, rfl, hk _ _ rfl h2, h3⟩⟩

theorem pad_arr (n m : Nat) (g : Nat → BitVec 8) : padRow (arr n g) (u8 0#8) m = some (arr (n + m) fun i => if i < n then g i else 0#8) := by
  have : zeroRow m (u8 0#8) = arr m fun _ => 0#8 := by
    simp [zeroRow, u8, arr, bytes, List.map_const']
  unfold padRow
  rw [this, arr_join]

theorem bs_app_g (l m : Bs) (i : Nat) : Bs.g (l ++ m) i = if i < l.length then l.g i else m.g (i - l.length) := by
  unfold Bs.g
  simp only [List.getD_eq_getElem?_getD, List.getElem?_append]
  split <;> rfl

/-- Bytes are appended to a writer's row. -/
theorem appW_wr {H : Heap} {wc : Nat} {x y : AV} {l m : Bs} {K : AV × Heap → Prop} (hr : Rx H wc x l) (hwc : wc < H.length) (hy : BytL H y m) (hb : l.length + m.length ≤ 1099511627776)
    (hK : ∀ x' H', Rx H' wc x' (l ++ m) → H.length ≤ H'.length → (∀ i, rb x ≠ some i → i < H.length → H'[i]? = H[i]?) → (∀ b, rb x' = some b → rb x = some b ∨ H.length ≤ b) → K (x', H')) : appW (.int .u8) 1 (u8 0#8) x y H K := by
  have hel := hy.1.1
  refine ⟨_, m.length, hel, arr_rowLen _ _, ?_⟩
  have hbl : (l ++ m).length ≤ 1099511627776 := by rw [List.length_append]; exact hb
  obtain ⟨hl, h1 | h1⟩ := hr
  · obtain ⟨rfl, rfl⟩ := h1
    simp only [List.length_nil, Nat.zero_add] at hb hl
    by_cases h0 : m.length = 0
    · refine .inl ⟨h0, ?_⟩
      have hm : m = [] := List.eq_nil_of_length_eq_zero h0
      subst hm
      exact hK _ _ ⟨by simp, .inl ⟨rfl, rfl⟩⟩ (Nat.le_refl _) (fun _ _ _ => rfl) (fun b hb => by cases hb)
    · refine .inr ⟨by omega, by unfold roomBound; omega, by unfold roomBound; omega, by omega, fun c row hc hrow => ?_⟩
      rw [pad_arr] at hrow
      cases hrow
      refine hK _ _ ⟨hbl, .inr ⟨H.length, c, fun i => if i < m.length then m.g i else 0#8, rfl, ?_, by omega, by simpa using hc, ?_⟩⟩ (by simp) (fun i _ hi => by rw [List.getElem?_append_left hi]) (fun b hb => by cases hb; exact .inr (Nat.le_refl _))
      · rw [List.getElem?_append_right (Nat.le_refl _), show m.length + (c - m.length) = c by omega]
        simp
      · intro i hi
        have : i < m.length := by simpa using hi
        simp [this]
  · obtain ⟨b, c, g, rfl, h2, h3, h4, h5⟩ := h1
    have hbk : blkAt H b 0 = some ⟨arr c g, 0, .own⟩ := by unfold blkAt; rw [h2]; rfl
    have hold : mElems (.int .u8) (.slice b 0 [] (.int .u8) 0 l.length (some c)) H = some (arr l.length g) := by
      rw [mElems_slc, hbk]
      simp only [bnd_some, get_nil, arr_cut, Nat.zero_add, h4, if_true]
    have hbi : b < H.length := (List.getElem?_eq_some_iff.1 h2).1
    refine ⟨_, _, hold, arr_join _ _ _ _, ?_⟩
    by_cases h0 : m.length = 0
    · refine .inl ⟨h0, h4, ?_⟩
      have hm : m = [] := List.eq_nil_of_length_eq_zero h0
      subst hm
      rw [List.append_nil] at hK
      exact hK _ _ ⟨hl, .inr ⟨b, c, g, rfl, h2, h3, h4, h5⟩⟩ (Nat.le_refl _) (fun _ _ _ => rfl) (fun b' hb' => .inl hb')
    · by_cases hroom : l.length + m.length ≤ c
      · refine .inr (.inl ⟨by omega, hroom, _, _, _, _, hbk, by simp, get_nil _, by rw [Nat.zero_add, arr_splice, if_pos ⟨hroom, Nat.le_refl _⟩], put_nil _ _, ?_⟩)
        refine hK _ _ ⟨hbl, .inr ⟨b, c, fun j => if l.length ≤ j ∧ j < l.length + m.length then m.g (j - l.length) else g j, by rw [List.length_append], by rw [List.getElem?_set_self hbi], h3, by rw [List.length_append]; exact hroom, ?_⟩⟩ (by simp) (fun i hi _ => ?_) (fun b' hb' => .inl hb')
        · intro i hi
          rw [List.length_append] at hi
          rw [bs_app_g]
          dsimp only
          by_cases hil : i < l.length
          · rw [if_pos hil, if_neg (by omega)]; exact h5 i hil
          · rw [if_neg hil, if_pos (by omega)]
        · rw [List.getElem?_set_ne (fun e => hi (by rw [← e]; rfl))]
      · refine .inr (.inr ⟨by omega, by omega, by unfold roomBound; omega, by unfold roomBound; omega, by omega, fun c' row hc hrow => ?_⟩)
        rw [pad_arr] at hrow
        cases hrow
        refine hK _ _ ⟨hbl, .inr ⟨H.length, c', fun i => if i < l.length + m.length then (if i < l.length then g i else m.g (i - l.length)) else 0#8, by rw [List.length_append], ?_, by omega, by rw [List.length_append]; exact hc, ?_⟩⟩ (by simp) (fun i _ hi => by rw [List.getElem?_append_left hi]) (fun b' hb' => by cases hb'; exact .inr (Nat.le_refl _))
        · rw [List.getElem?_append_right (Nat.le_refl _), show l.length + m.length + (c' - (l.length + m.length)) = c' by omega]
          simp
        · intro i hi
          rw [List.length_append] at hi
          dsimp only
          rw [if_pos hi, bs_app_g]
          by_cases hil : i < l.length
          · rw [if_pos hil, if_pos hil]; exact h5 i hil
          · rw [if_neg hil, if_neg hil]

/-- The bytes of a number, the highest first. -/
def beN (n : BitVec 64) (size : Nat) : Bs := (List.range size).map fun i => (n >>> (8 * (size - 1 - i))).setWidth 8

@[simp] theorem wV_get00 (x : AV) : (wV x).get [0, 0] = some x := by simp [wV]
@[simp] theorem wV_get01 (x : AV) : (wV x).get [0, 1] = some (nat 0) := by simp [wV]
@[simp] theorem wV_put00 (x y : AV) : (wV x).put [0, 0] y = some (wV y) := by simp [wV]
@[simp] theorem hasTy_wV (x : AV) : hasTy (wV x) tLwriter = hasTy x .cell := by simp [wV]
@[simp] theorem wV_fold (x : AV) : AV.node [.node [x, nat 0]] = wV x := rfl
theorem Wx.blk {h : Heap} {wc : Nat} {x : AV} {l : Bs} (w : Wx h wc x l) : blkAt h wc 0 = some ⟨wV x, 0, .own⟩ := by
  unfold blkAt; rw [w.1]; rfl
theorem Wx.lt {h : Heap} {wc : Nat} {x : AV} {l : Bs} (w : Wx h wc x l) : wc < h.length := (List.getElem?_eq_some_iff.1 w.1).1
theorem Wx.app {h : Heap} {wc : Nat} {x : AV} {l : Bs} (w : Wx h wc x l) (e : Heap) : Wx (h ++ e) wc x l := by
  have g : ∀ i c, h[i]? = some c → (h ++ e)[i]? = some c := fun i c hi => by rw [List.getElem?_append_left (List.getElem?_eq_some_iff.1 hi).1]; exact hi
  exact ⟨g _ _ w.1, w.2.mono fun b c _ hb => g b c hb⟩
theorem KeepW.ext (h e : Heap) (wc : Nat) (x : AV) : KeepW h (h ++ e) wc x x := ⟨by simp, fun i c hi _ _ => by rw [List.getElem?_append_left (List.getElem?_eq_some_iff.1 hi).1]; exact hi, fun b hb => .inl hb⟩
theorem Rx.ne {h : Heap} {wc : Nat} {x : AV} {l : Bs} (hr : Rx h wc x l) : rb x ≠ some wc := by
  obtain ⟨_, ⟨rfl, _⟩ | ⟨b, c, g, rfl, _, h3, _⟩⟩ := hr
  · simp [rb]
  · simpa [rb] using h3

/-- .. and what came of it is stored. -/
theorem appW_wr2 {H : Heap} {wc : Nat} {x y : AV} {l m : Bs} {K : AV × Heap → Prop} (hw : Wx H wc x l) (hy : BytL H y m) (hb : l.length + m.length ≤ 1099511627776)
    (hK : ∀ x' H', blkAt H' wc 0 = some ⟨wV x, 0, .own⟩ → hasTy x' .cell = true → Wx (H'.set wc ⟨wV x', 0, .own⟩) wc x' (l ++ m) → KeepW H (H'.set wc ⟨wV x', 0, .own⟩) wc x x' → K (x', H')) : appW (.int .u8) 1 (u8 0#8) x y H K := by
  have hne := hw.2.ne
  refine appW_wr hw.2 hw.lt hy hb fun x' H' r1 r2 r3 r4 => ?_
  have hwc : H'[wc]? = some ⟨wV x, 0, .own⟩ := by rw [r3 wc hne hw.lt]; exact hw.1
  have hlt : wc < H'.length := (List.getElem?_eq_some_iff.1 hwc).1
  refine hK x' H' (by unfold blkAt; rw [hwc]; rfl) r1.cell ⟨by rw [List.getElem?_set_self hlt], r1.mono fun b c hb hc => ?_⟩ ⟨by simpa using r2, fun i c hi hiw hix => ?_, r4⟩
  · rw [List.getElem?_set_ne]
    · exact hc
    · rintro rfl; exact r1.ne hb
  · rw [List.getElem?_set_ne (fun e => hiw e.symm), r3 i hix (List.getElem?_eq_some_iff.1 hi).1]; exact hi

@[simp] theorem build1_u8 (h : Heap) (b : BitVec 8) : mBuildSlice (.int .u8) (u8 0#8) 1 [(0, u8 b)] h = some (.slice h.length 0 [] (.int .u8) 0 1 (some 1), h ++ [⟨arr 1 fun _ => b, 0, .own⟩]) := by
  have e : zeroRow 1 (u8 0#8) = arr 1 fun _ => 0#8 := by simp [zeroRow, u8, arr, bytes]
  have e2 : upd (fun _ => 0#8) 0 b = upd (fun _ => 0#8) 0 b := rfl
  simp only [mBuildSlice, e, fillRow, arr_put, Nat.lt_irrefl]
  simp [Ty.size]
  exact arr_congr fun i hi => by
    have : i = 0 := by omega
    subst this; simp
theorem byt1 (h : Heap) (b : BitVec 8) (e : Heap) : BytL (h ++ (⟨arr 1 fun _ => b, 0, .own⟩ :: e)) (.slice h.length 0 [] (.int .u8) 0 1 (some 1)) [b] := by
  refine ⟨⟨?_, rfl, by simp, rfl⟩, by simp⟩
  rw [mElems_slc]
  simp
  exact arr_congr fun i hi => by
    have : i = 0 := by simpa using hi
    subst this; rfl

/-- A slice that is not the writer's. -/
def Ap (h : Heap) (y : AV) (wc : Nat) (x : AV) : Prop := ∀ b, rb y = some b → b < h.length ∧ b ≠ wc ∧ rb x ≠ some b
theorem Ap.step {h h' : Heap} {y : AV} {wc : Nat} {x x' : AV} (a : Ap h y wc x) (k : KeepW h h' wc x x') : Ap h' y wc x' := fun b hb => by
  obtain ⟨h1, h2, h3⟩ := a b hb
  refine ⟨Nat.lt_of_lt_of_le h1 k.len, h2, fun e => ?_⟩
  rcases k.row b e with h4 | h4
  · exact h3 h4
  · omega
theorem Ap.nil (h : Heap) (wc : Nat) (x : AV) : Ap h .nilslice wc x := fun b hb => by cases hb
theorem KeepW.blk {h h' : Heap} {wc : Nat} {x x' : AV} (k : KeepW h h' wc x x') {i ver : Nat} {b : Blk} (hb : blkAt h i ver = some b) (h1 : i ≠ wc) (h2 : rb x ≠ some i) : blkAt h' i ver = some b := by
  obtain ⟨g1, g2⟩ := blkAt_spec hb
  unfold blkAt
  rw [k.keep i b g1 h1 h2]
  simp [g2]
theorem BytL.keep {h h' : Heap} {y : AV} {m : Bs} {wc : Nat} {x x' : AV} (hy : BytL h y m) (k : KeepW h h' wc x x') (a : Ap h y wc x) : BytL h' y m := by
  refine ⟨⟨?_, hy.1.2⟩, hy.2⟩
  have h1 := hy.1.1
  cases y with
  | nilslice => exact h1
  | slice b ver path t off len cap =>
    simp only [mElems] at h1 ⊢
    split at h1
    · rename_i ht
      rw [if_pos ht]
      obtain ⟨bb, g1, g2⟩ := bnd_eq_some.1 h1
      obtain ⟨a1, a2, a3⟩ := a b rfl
      rw [k.blk g1 a2 a3, bnd_some]
      exact g2
    · cases h1
  | str b => exact h1
  | _ => simp [mElems] at h1
theorem Row.keep {h h' : Heap} {t : Ty} {y : AV} {vs : List AV} {wc : Nat} {x x' : AV} (hy : Row t h y vs) (k : KeepW h h' wc x x') (a : Ap h y wc x) : Row t h' y vs := by
  refine ⟨?_, hy.2⟩
  have h1 := hy.1
  cases y with
  | nilslice => exact h1
  | slice b ver path t off len cap =>
    simp only [mElems] at h1 ⊢
    split at h1
    · rename_i ht
      rw [if_pos ht]
      obtain ⟨bb, g1, g2⟩ := bnd_eq_some.1 h1
      obtain ⟨a1, a2, a3⟩ := a b rfl
      rw [k.blk g1 a2 a3, bnd_some]
      exact g2
    · cases h1
  | str b => cases hy.2.1
  | _ => simp [mElems] at h1

/-- A writer's call: so much more is written, and all else stays. -/
def WrQ (h : Heap) (wc : Nat) (x : AV) (l : Bs) (v : AV) (r : AV × Heap) : Prop := r.1 = v ∧ ∃ x', Wx r.2 wc x' l ∧ KeepW h r.2 wc x x'
def wp (wc : Nat) : AV := .ptr wc 0 [0] tWriter
def wq (wc : Nat) : AV := .ptr wc 0 [] tLwriter
theorem pt_byt {h : Heap} {j : Nat} {p : Pt} (hb : blkAt h j 0 = some ⟨pt p, 0, .own⟩) : BytL h (.slice j 0 [] (.int .u8) 0 32 (some 32)) p.l := by
  refine ⟨⟨?_, ?_⟩, by rw [p.h]; omega⟩
  · rw [mElems_slc, hb]
    simp only [bnd_some, get_nil, pt, arr_cut, p.h]
    simp
    rfl
  · rw [p.h]; exact ⟨rfl, Nat.le_refl _, rfl⟩

/-- Cells of one's own beside a writer. -/
def Cells (n : Nat) (cs : List Blk) (H : Heap) (wc : Nat) (x : AV) : Prop := wc < n ∧ ∀ i c, cs[i]? = some c → H[n + i]? = some c ∧ rb x ≠ some (n + i)
theorem Cells.step {n : Nat} {cs : List Blk} {H H' : Heap} {wc : Nat} {x x' : AV} (h : Cells n cs H wc x) (k : KeepW H H' wc x x') : Cells n cs H' wc x' := by
  refine ⟨h.1, fun i c hc => ?_⟩
  obtain ⟨h1, h2⟩ := h.2 i c hc
  refine ⟨k.keep _ _ h1 (by have := h.1; omega) h2, fun e => ?_⟩
  rcases k.row _ e with h3 | h3
  · exact h2 h3
  · have := (List.getElem?_eq_some_iff.1 h1).1
    omega
theorem Cells.blk {n : Nat} {cs : List Blk} {H : Heap} {wc : Nat} {x : AV} (h : Cells n cs H wc x) (i : Nat) {c : Blk} (hc : cs[i]? = some c) : blkAt H (n + i) c.ver = some c := by
  unfold blkAt
  rw [(h.2 i c hc).1]
  simp
theorem Cells.new {h : Heap} {wc : Nat} {x : AV} {l : Bs} (hw : Wx h wc x l) (cs : List Blk) : Cells h.length cs (h ++ cs) wc x := by
  refine ⟨hw.lt, fun i c hc => ⟨by rw [List.getElem?_append_right (by omega), Nat.add_sub_cancel_left]; exact hc, fun e => ?_⟩⟩
  obtain ⟨_, ⟨rfl, _⟩ | ⟨b, c', g, rfl, h2, _⟩⟩ := hw.2
  · cases e
  · cases e
    have := (List.getElem?_eq_some_iff.1 h2).1
    omega
theorem Ap.app {h : Heap} {y : AV} {wc : Nat} {x : AV} (a : Ap h y wc x) (e : Heap) : Ap (h ++ e) y wc x := a.step (KeepW.ext _ _ _ _)

def textB (m : Bs) : Bs := beN (BitVec.ofNat 64 m.length) 2 ++ m
def accB (a : Acc) : Bs := beN (a.title.setWidth 64) 1 ++ beN (a.members.setWidth 64) 1 ++ beN (a.link.setWidth 64) 1
def ciB (c : Ci) : Bs := c.e.l ++ c.f.l
def when_ (b : Bool) (l : Bs) : Bs := if b = true then l else []
/-- An action's form. -/
def actB (a : Actn) : Bs := beN (a.version.setWidth 64) 4 ++ beN (a.kind.setWidth 64) 1 ++ when_ (hW a.kind) (ciB a.who) ++ when_ (hE a.kind) a.e.l ++ when_ (hR a.kind) (beN (a.role.setWidth 64) 1) ++
  when_ (hT a.kind) (textB a.title) ++ when_ (hA a.kind) (accB a.acc) ++ when_ (hP a.kind) (textB a.pass)


end Go.Vab

/- How the code of a function is read. Printed by wip/tools/gen2.py (own work). -/
namespace Go.Vab
open Go Go.Proofs
/-! (*vestry/pack.Writer).Num -/
def cx38 : Ctx := ⟨fun _ _ _ => none, TT, 67, [9, 10, 11, 12, 13, 14, 15, 16, 17, 18, 20, 21, 22, 23, 24, 25, 26, 27, 28, 29, 31, 32, 33, 34, 35, 36, 37, 38, 39, 40, 41, 42, 43, 47, 48, 49, 50, 51, 52, 53, 54, 55, 56, 57, 58, 59, 60, 61, 62, 63, 64, 65, 66]⟩
noncomputable def n38_0 : Code := bodyOf Try.f38
noncomputable def n38_1 : Code := cR n38_0
noncomputable def n38_2 : Code := cL n38_1
noncomputable def n38_3 : Code := cB n38_2
noncomputable def n38_4 : Code := cR n38_3
noncomputable def n38_5 : Code := cL n38_4
noncomputable def n38_6 : Code := cR n38_5
noncomputable def n38_7 : Code := cR n38_4
noncomputable def n38_8 : Code := cR n38_7
noncomputable def n38_9 : Code := cL n38_8
noncomputable def n38_10 : Code := cR n38_9
noncomputable def n38_11 : Code := cR n38_10
noncomputable def n38_12 : Code := cR n38_8
noncomputable def n38_13 : Code := cR n38_12
noncomputable def n38_14 : Code := cL n38_13
noncomputable def n38_15 : Code := cR n38_14
noncomputable def n38_16 : Code := cR n38_15
noncomputable def n38_17 : Code := cR n38_13
noncomputable def n38_18 : Code := cR n38_1
noncomputable def n38_19 : Code := cL n38_18
noncomputable def n38_20 : Code := cR n38_19
noncomputable def n38_21 : Code := cB n38_20
noncomputable def n38_22 : Code := cB n38_21
noncomputable def n38_23 : Code := cR n38_22
noncomputable def n38_24 : Code := cL n38_23
noncomputable def n38_25 : Code := cL n38_24
noncomputable def n38_26 : Code := cR n38_24
noncomputable def n38_27 : Code := cR n38_23
noncomputable def n38_28 : Code := cL n38_27
noncomputable def n38_29 : Code := cB n38_28
noncomputable def n38_30 : Code := cR n38_29
noncomputable def n38_31 : Code := cR n38_27
noncomputable def n38_32 : Code := cR n38_18
noncomputable def n38_33 : Code := cR n38_32
theorem n38_6_eq (Q : Ex × St → Prop) (s : St) : wC Try.prog cx38 n38_6 Q s = Q (.ret, s) := yE
theorem n38_5_eq (Q : Ex × St → Prop) (env : Env) (h : Heap) : wC Try.prog cx38 n38_5 Q ⟨env, h⟩ = ( wC Try.prog cx38 n38_6 Q ⟨(Env.put env 6 (env.get 0)), h⟩) := (ySR 2 (cOps (cL n38_5)) (cR n38_5)).trans (by
  refine w0 ?_
  refine wT 18 (env.get 0) ?_
  refine wT 6 (env.get 0) ?_
  exact wE)
theorem n38_11_eq (Q : Ex × St → Prop) (s : St) : wC Try.prog cx38 n38_11 Q s = Q (.ret, s) := yE
theorem n38_10_eq (Q : Ex × St → Prop) (env : Env) (h : Heap) : wC Try.prog cx38 n38_10 Q ⟨env, h⟩ = ( wC Try.prog cx38 n38_11 Q ⟨(Env.put env 6 (env.get 0)), h⟩) := (ySR 5 (cOps (cL n38_10)) (cR n38_10)).trans (by
  refine w0 ?_
  refine wT 29 (env.get 0) ?_
  refine wT 6 (env.get 0) ?_
  exact wE)
theorem n38_9_eq (Q : Ex × St → Prop) (env : Env) (h : Heap) : wC Try.prog cx38 n38_9 Q ⟨env, h⟩ = (Evs (mNilCheck (env.get 0)) fun v1 => Evs (mFieldAddr tWriter v1 1) fun v2 => Evs (stU (.int .i64) v2 (nat 2) h) fun r3 => wC Try.prog cx38 n38_10 Q ⟨env, r3.2⟩) := (ySR 4 (cOps (cL n38_9)) (cR n38_9)).trans (by
  refine w0 ?_
  refine wT 26 (env.get 0) ?_
  refine wP 27 fun v1 => ?_
  refine wP 28 fun v2 => ?_
  refine wHn fun r3 => ?_
  exact wE)
theorem n38_16_eq (Q : Ex × St → Prop) (s : St) : wC Try.prog cx38 n38_16 Q s = Q (.ret, s) := yE
theorem n38_15_eq (Q : Ex × St → Prop) (env : Env) (h : Heap) : wC Try.prog cx38 n38_15 Q ⟨env, h⟩ = ( wC Try.prog cx38 n38_16 Q ⟨(Env.put env 6 (env.get 0)), h⟩) := (ySR 8 (cOps (cL n38_15)) (cR n38_15)).trans (by
  refine w0 ?_
  refine wT 43 (env.get 0) ?_
  refine wT 6 (env.get 0) ?_
  exact wE)
theorem n38_14_eq (Q : Ex × St → Prop) (env : Env) (h : Heap) : wC Try.prog cx38 n38_14 Q ⟨env, h⟩ = (Evs (mNilCheck (env.get 0)) fun v1 => Evs (mFieldAddr tWriter v1 1) fun v2 => Evs (stU (.int .i64) v2 (nat 6) h) fun r3 => wC Try.prog cx38 n38_15 Q ⟨env, r3.2⟩) := (ySR 7 (cOps (cL n38_14)) (cR n38_14)).trans (by
  refine w0 ?_
  refine wT 40 (env.get 0) ?_
  refine wP 41 fun v1 => ?_
  refine wP 42 fun v2 => ?_
  refine wHn fun r3 => ?_
  exact wE)
theorem n38_17_eq (Q : Ex × St → Prop) (s : St) : wC Try.prog cx38 n38_17 Q s = Q (.nrm, s) := yK
theorem n38_13_eq (Q : Ex × St → Prop) (s : St) : wC Try.prog cx38 n38_13 Q s = cndW (s.env.get 30) (wL Try.prog cx38 n38_14 Q s) (wL Try.prog cx38 n38_17 Q s) := yC 30 _ _
theorem n38_12_eq (Q : Ex × St → Prop) (env : Env) (h : Heap) : wC Try.prog cx38 n38_12 Q ⟨env, h⟩ = (Evs (mBin .mul (nat 8) (env.get 2)) fun v2 => Evs (mBin .shr (env.get 1) v2) fun v3 => Evs (mBin .neq v3 (u64 0#64)) fun v4 => Evs (gv v4 true (some (env.get 2))) fun v6 => Evs (gv v4 true (mBin .lss v6 (nat 8))) fun v7 => Evs (mPick v4 v7 (.bool false)) fun v8 => wC Try.prog cx38 n38_13 Q ⟨(Env.put env 30 v8), h⟩) := (ySR 6 (cOps (cL n38_12)) (cR n38_12)).trans (by
  refine w0 ?_
  refine wT 31 (env.get 1) ?_
  refine wT 32 (env.get 2) ?_
  refine wP 33 fun v2 => ?_
  refine wP 34 fun v3 => ?_
  refine wP 35 fun v4 => ?_
  refine wT 36 v4 ?_
  refine wG 37 fun v6 => ?_
  refine wG 38 fun v7 => ?_
  refine wP 39 fun v8 => ?_
  refine wT 30 v8 ?_
  exact wE)
theorem n38_8_eq (Q : Ex × St → Prop) (s : St) : wC Try.prog cx38 n38_8 Q s = cndW (s.env.get 19) (wL Try.prog cx38 n38_9 Q s) (wL Try.prog cx38 n38_12 Q s) := yC 19 _ _
theorem n38_7_eq (Q : Ex × St → Prop) (env : Env) (h : Heap) : wC Try.prog cx38 n38_7 Q ⟨env, h⟩ = (Evs (mBin .lss (env.get 2) (nat 1)) fun v1 => Evs (gv v1 false (some (env.get 2))) fun v3 => Evs (gv v1 false (mBin .gtr v3 (nat 8))) fun v4 => Evs (mPick v1 (.bool true) v4) fun v5 => wC Try.prog cx38 n38_8 Q ⟨(Env.put env 19 v5), h⟩) := (ySR 3 (cOps (cL n38_7)) (cR n38_7)).trans (by
  refine w0 ?_
  refine wT 20 (env.get 2) ?_
  refine wP 21 fun v1 => ?_
  refine wT 22 v1 ?_
  refine wG 23 fun v3 => ?_
  refine wG 24 fun v4 => ?_
  refine wP 25 fun v5 => ?_
  refine wT 19 v5 ?_
  exact wE)
theorem n38_4_eq (Q : Ex × St → Prop) (s : St) : wC Try.prog cx38 n38_4 Q s = cndW (s.env.get 8) (wL Try.prog cx38 n38_5 Q s) (wL Try.prog cx38 n38_7 Q s) := yC 8 _ _
theorem n38_3_eq (Q : Ex × St → Prop) (env : Env) (h : Heap) : wC Try.prog cx38 n38_3 Q ⟨env, h⟩ = (Evs (mBinP .eql (env.get 0) .nilptr) fun v1 => Evs (gv v1 false (some (env.get 0))) fun v3 => Evs (gv v1 false (mNilCheck v3)) fun v4 => Evs (gv v1 false (mFieldAddr tWriter v4 1)) fun v5 => Evs (gv v1 false (mLoad (.int .i64) v5 h)) fun v6 => Evs (gv v1 false (mBin .neq v6 (nat 0))) fun v7 => Evs (mPick v1 (.bool true) v7) fun v8 => wC Try.prog cx38 n38_4 Q ⟨(Env.put env 8 v8), h⟩) := (ySR 1 (cOps (cL n38_3)) (cR n38_3)).trans (by
  refine w0 ?_
  refine wT 9 (env.get 0) ?_
  refine wP 10 fun v1 => ?_
  refine wT 11 v1 ?_
  refine wG 12 fun v3 => ?_
  refine wG 13 fun v4 => ?_
  refine wG 14 fun v5 => ?_
  refine wG 15 fun v6 => ?_
  refine wG 16 fun v7 => ?_
  refine wP 17 fun v8 => ?_
  refine wT 8 v8 ?_
  exact wE)
theorem n38_2_eq (Q : Ex × St → Prop) (s : St) : wC Try.prog cx38 n38_2 Q s = wC Try.prog cx38 n38_3 (fun r => Q (inBlk 0 r)) s := yB 0 _
theorem n38_25_eq (Q : Ex × St → Prop) (s : St) : wC Try.prog cx38 n38_25 Q s = Q (.nrm, s) := yK
theorem n38_26_eq (Q : Ex × St → Prop) (s : St) : wC Try.prog cx38 n38_26 Q s = Q (.exit 1, s) := yX 1
theorem n38_24_eq (Q : Ex × St → Prop) (s : St) : wC Try.prog cx38 n38_24 Q s = cndW (s.env.get 46) (wL Try.prog cx38 n38_25 Q s) (wL Try.prog cx38 n38_26 Q s) := yC 46 _ _
theorem n38_30_ok : treeOk (cOps n38_30).toList [13, 14, 17] [0, 0, 2, 6, 14, 0, 0, 64, 0, 448, 960, 2016, 4064, 8160, 16382, 32767, 65535, 131071] = true := by kernel_rfl
theorem n38_30_w (Q : Ex × St → Prop) (env : Env) (h : Heap) (H : Evs (mNilCheck (env.get 0)) fun v2_1 => Evs (mFieldAddr tWriter v2_1 0) fun v3_2 => Evs (mLoad .cell v3_2 h) fun v4_3 => Evs (mBin .sub (env.get 2) (nat 1)) fun v7_4 => Evs (mBin .sub v7_4 (env.get 7)) fun v9_5 => Evs (mBin .mul (nat 8) v9_5) fun v10_6 => Evs (mBin .shr (env.get 1) v10_6) fun v11_7 => Evs (mConv .u8 v11_7) fun v12_8 => Evs (mBuildSlice (.int .u8) (u8 0#8) 1 [(0, v12_8)] h) fun r13_9 => stabP (mLoad .cell v3_2 r13_9.2 = some v4_3) (appA (.int .u8) 1 (u8 0#8) v4_3 r13_9.1 r13_9.2 fun r14_10 => Evs (mNilCheck (env.get 0)) fun v15_11 => Evs (mFieldAddr tWriter v15_11 0) fun v16_12 => Evs (stU .cell v16_12 r14_10.1 r14_10.2) fun r17_13 => Q (.nrm, ⟨env, r17_13.2⟩))) : wC Try.prog cx38 n38_30 Q ⟨env, h⟩ := by
  refine yD 12 (cOps n38_30) [13, 14, 17] [0, 0, 2, 6, 14, 0, 0, 64, 0, 448, 960, 2016, 4064, 8160, 16382, 32767, 65535, 131071] [0, 1, 2, 3, 4, 5, 6, 7, 8, 9, 10, 11, 12] n38_30_ok ?_
  refine rT 48 (env.get 0) ?_
  refine rT 49 (env.get 0) ?_
  refine rP H 50 fun v2_1 H => ?_
  refine rP H 51 fun v3_2 H => ?_
  refine rP H 52 fun v4_3 H => ?_
  refine rT 53 (env.get 1) ?_
  refine rT 54 (env.get 2) ?_
  refine rP H 55 fun v7_4 H => ?_
  refine rT 56 (env.get 7) ?_
  refine rP H 57 fun v9_5 H => ?_
  refine rP H 58 fun v10_6 H => ?_
  refine rP H 59 fun v11_7 H => ?_
  refine rP H 60 fun v12_8 H => ?_
  refine rE ?_
  refine tN 13 [] ?_
  refine aN1 ?_
  refine tH H 61 [] [4] (fun r13_9 H => ?_)
  refine sP v4_3 52 H (fun H => ?_) (by kernel_rfl) (by kernel_rfl) (by kernel_rfl)
  refine ⟨sNil, ?_⟩
  refine rE ?_
  refine tN 14 [] ?_
  refine aN1 ?_
  refine tH H 62 [15, 16] [] (fun r14_10 H => ?_)
  refine ⟨sNil, ?_⟩
  refine rP H 63 fun v15_11 H => ?_
  refine rP H 64 fun v16_12 H => ?_
  refine rE ?_
  refine tN 17 [] ?_
  refine aN1 ?_
  refine tHn H [] [] (fun r17_13 H => ?_)
  refine ⟨sNil, ?_⟩
  refine rE ?_
  exact tE H
theorem n38_29_eq (Q : Ex × St → Prop) (env : Env) (h : Heap) : wC Try.prog cx38 n38_29 Q ⟨env, h⟩ = ( wC Try.prog cx38 n38_30 Q ⟨(Env.put env 7 (env.get 45)), h⟩) := (ySR 11 (cOps (cL n38_29)) (cR n38_29)).trans (by
  refine w0 ?_
  refine wT 47 (env.get 45) ?_
  refine wT 7 (env.get 45) ?_
  exact wE)
theorem n38_28_eq (Q : Ex × St → Prop) (s : St) : wC Try.prog cx38 n38_28 Q s = wC Try.prog cx38 n38_29 (fun r => Q (inBlk 2 r)) s := yB 2 _
theorem n38_31_eq (Q : Ex × St → Prop) (env : Env) (h : Heap) : wC Try.prog cx38 n38_31 Q ⟨env, h⟩ = (Evs (mBin .add (env.get 45) (nat 1)) fun v0 => Q (.nrm, ⟨(Env.put env 45 v0), h⟩)) := (yR 13 (cOps n38_31)).trans (by
  refine w0 ?_
  refine wP 65 fun v0 => ?_
  refine wT 45 v0 ?_
  exact wE)
theorem n38_27_eq (Q : Ex × St → Prop) (s : St) : wC Try.prog cx38 n38_27 Q s = wC Try.prog cx38 n38_28 (sqW (wC Try.prog cx38 n38_31) Q) s := yS _ _
theorem n38_23_eq (Q : Ex × St → Prop) (s : St) : wC Try.prog cx38 n38_23 Q s = wC Try.prog cx38 n38_24 (sqW (wC Try.prog cx38 n38_27) Q) s := yS _ _
theorem n38_22_eq (Q : Ex × St → Prop) (env : Env) (h : Heap) : wC Try.prog cx38 n38_22 Q ⟨env, h⟩ = (Evs (mBin .lss (env.get 45) (env.get 44)) fun v0 => wC Try.prog cx38 n38_23 Q ⟨(Env.put env 46 v0), h⟩) := (ySR 10 (cOps (cL n38_22)) (cR n38_22)).trans (by
  refine w0 ?_
  refine wP 46 fun v0 => ?_
  exact wE)
theorem n38_21_eq (Q : Ex × St → Prop) (s : St) : wC Try.prog cx38 n38_21 Q s = loopW (wC Try.prog cx38 n38_22) Q s := yL _
theorem n38_20_eq (Q : Ex × St → Prop) (s : St) : wC Try.prog cx38 n38_20 Q s = wC Try.prog cx38 n38_21 (fun r => Q (inBlk 1 r)) s := yB 1 _
theorem n38_19_eq (Q : Ex × St → Prop) (env : Env) (h : Heap) : wC Try.prog cx38 n38_19 Q ⟨env, h⟩ = ( wC Try.prog cx38 n38_20 Q ⟨(Env.put (Env.put env 44 (env.get 2)) 45 (nat 0)), h⟩) := (ySR 9 (cOps (cL n38_19)) (cR n38_19)).trans (by
  refine w0 ?_
  refine wT 44 (env.get 2) ?_
  refine wT 45 (nat 0) ?_
  exact wE)
theorem n38_33_eq (Q : Ex × St → Prop) (s : St) : wC Try.prog cx38 n38_33 Q s = Q (.ret, s) := yE
theorem n38_32_eq (Q : Ex × St → Prop) (env : Env) (h : Heap) : wC Try.prog cx38 n38_32 Q ⟨env, h⟩ = ( wC Try.prog cx38 n38_33 Q ⟨(Env.put env 6 (env.get 0)), h⟩) := (ySR 14 (cOps (cL n38_32)) (cR n38_32)).trans (by
  refine w0 ?_
  refine wT 66 (env.get 0) ?_
  refine wT 6 (env.get 0) ?_
  exact wE)
theorem n38_18_eq (Q : Ex × St → Prop) (s : St) : wC Try.prog cx38 n38_18 Q s = wC Try.prog cx38 n38_19 (sqW (wC Try.prog cx38 n38_32) Q) s := yS _ _
theorem n38_1_eq (Q : Ex × St → Prop) (s : St) : wC Try.prog cx38 n38_1 Q s = wC Try.prog cx38 n38_2 (sqW (wC Try.prog cx38 n38_18) Q) s := yS _ _
theorem n38_0_eq (Q : Ex × St → Prop) (env : Env) (h : Heap) : wC Try.prog cx38 n38_0 Q ⟨env, h⟩ = ( wC Try.prog cx38 n38_1 Q ⟨(Env.put env 6 .nilptr), h⟩) := (ySR 0 (cOps (cL n38_0)) (cR n38_0)).trans (by
  refine w0 ?_
  refine wT 6 .nilptr ?_
  exact wE)
theorem fn38 : Try.prog.funcs[38]? = some Try.f38 := by kernel_rfl
theorem q38 {a0 a1 a2 : AV} {h : Heap} {K : AV × Heap → Prop} (H : ∀ env : Env, env.get 0 = a0 → env.get 1 = a1 → env.get 2 = a2 → wC Try.prog cx38 n38_0 (retW (fun s => (bnd (some (s.env.get 6)) fun v => bnd (some []) fun vs => some (v :: vs))) K) ⟨env, h⟩) : SpecQ Try.prog 38 [a0, a1, a2] h K :=
  bodyW_sound (C := cx38) TT_ok mixed_ok fn38 (by kernel_rfl) (show _ = some n38_0 by kernel_rfl) (by kernel_rfl) (by kernel_rfl) (of_decide_eq_true (by kernel_rfl)) ((show wC Try.prog cx38 n38_0 (retW (fun s => resAll cx38 s Try.f38.results.toList) K) ⟨env0 cx38 [a0, a1, a2], h⟩ = wC Try.prog cx38 n38_0 (retW (fun s => (bnd (some (s.env.get 6)) fun v => bnd (some []) fun vs => some (v :: vs))) K) ⟨[(0, a0), (1, a1), (2, a2), (3, .junk), (4, .junk), (5, .junk), (6, .junk), (7, .junk), (8, .junk), (19, .junk), (30, .junk), (44, .junk), (45, .junk), (46, .junk)], h⟩ by kernel_rfl).mpr (H [(0, a0), (1, a1), (2, a2), (3, .junk), (4, .junk), (5, .junk), (6, .junk), (7, .junk), (8, .junk), (19, .junk), (30, .junk), (44, .junk), (45, .junk), (46, .junk)] rfl rfl rfl))
def sn38 := And.intro n38_6_eq (And.intro n38_5_eq (And.intro n38_11_eq (And.intro n38_10_eq (And.intro n38_9_eq (And.intro n38_16_eq (And.intro n38_15_eq (And.intro n38_14_eq (And.intro n38_17_eq (And.intro n38_13_eq (And.intro n38_12_eq (And.intro n38_8_eq (And.intro n38_7_eq (And.intro n38_4_eq (And.intro n38_3_eq (And.intro n38_2_eq (And.intro n38_25_eq (And.intro n38_26_eq (And.intro n38_24_eq (And.intro n38_29_eq (And.intro n38_28_eq (And.intro n38_31_eq (And.intro n38_27_eq (And.intro n38_23_eq (And.intro n38_22_eq (And.intro n38_21_eq (And.intro n38_20_eq (And.intro n38_19_eq (And.intro n38_33_eq (And.intro n38_32_eq (And.intro n38_18_eq (And.intro n38_1_eq (n38_0_eq))))))))))))))))))))))))))))))))
-- draws: n38_30
end Go.Vab

/- How the code of a function is read. Printed by wip/tools/gen2.py (own work). -/
namespace Go.Vab
open Go Go.Proofs
/-! (*vestry/pack.Writer).Raw -/
def cx63 : Ctx := ⟨fun _ _ _ => none, TT, 24, [5, 6, 7, 8, 9, 10, 11, 12, 14, 15, 16, 17, 18, 19, 20, 21, 22, 23]⟩
noncomputable def n63_0 : Code := bodyOf Try.f63
noncomputable def n63_1 : Code := cR n63_0
noncomputable def n63_2 : Code := cL n63_1
noncomputable def n63_3 : Code := cR n63_2
noncomputable def n63_4 : Code := cL n63_3
noncomputable def n63_5 : Code := cR n63_3
noncomputable def n63_6 : Code := cR n63_1
noncomputable def n63_7 : Code := cR n63_6
theorem n63_4_eq (Q : Ex × St → Prop) (env : Env) (h : Heap) : wC Try.prog cx63 n63_4 Q ⟨env, h⟩ = (Evs (mNilCheck (env.get 0)) fun v2 => Evs (mFieldAddr tWriter v2 0) fun v3 => Evs (mLoad .cell v3 h) fun v4 => appA (.int .u8) 1 (u8 0#8) v4 (env.get 1) h fun r6 => Evs (mNilCheck (env.get 0)) fun v7 => Evs (mFieldAddr tWriter v7 0) fun v8 => Evs (stU .cell v8 r6.1 r6.2) fun r9 => Q (.nrm, ⟨env, r9.2⟩)) := (yR 2 (cOps n63_4)).trans (by
  refine w0 ?_
  refine wT 14 (env.get 0) ?_
  refine wT 15 (env.get 0) ?_
  refine wP 16 fun v2 => ?_
  refine wP 17 fun v3 => ?_
  refine wP 18 fun v4 => ?_
  refine wT 19 (env.get 1) ?_
  refine wH 20 fun r6 => ?_
  refine wP 21 fun v7 => ?_
  refine wP 22 fun v8 => ?_
  refine wHn fun r9 => ?_
  exact wE)
theorem n63_5_eq (Q : Ex × St → Prop) (s : St) : wC Try.prog cx63 n63_5 Q s = Q (.nrm, s) := yK
theorem n63_3_eq (Q : Ex × St → Prop) (s : St) : wC Try.prog cx63 n63_3 Q s = cndW (s.env.get 13) (wL Try.prog cx63 n63_4 Q s) (wL Try.prog cx63 n63_5 Q s) := yC 13 _ _
theorem n63_2_eq (Q : Ex × St → Prop) (env : Env) (h : Heap) : wC Try.prog cx63 n63_2 Q ⟨env, h⟩ = (Evs (mBinP .neq (env.get 0) .nilptr) fun v1 => Evs (gv v1 true (some (env.get 0))) fun v3 => Evs (gv v1 true (mNilCheck v3)) fun v4 => Evs (gv v1 true (mFieldAddr tWriter v4 1)) fun v5 => Evs (gv v1 true (mLoad (.int .i64) v5 h)) fun v6 => Evs (gv v1 true (mBin .eql v6 (nat 0))) fun v7 => Evs (mPick v1 v7 (.bool false)) fun v8 => wC Try.prog cx63 n63_3 Q ⟨(Env.put env 13 v8), h⟩) := (ySR 1 (cOps (cL n63_2)) (cR n63_2)).trans (by
  refine w0 ?_
  refine wT 5 (env.get 0) ?_
  refine wP 6 fun v1 => ?_
  refine wT 7 v1 ?_
  refine wG 8 fun v3 => ?_
  refine wG 9 fun v4 => ?_
  refine wG 10 fun v5 => ?_
  refine wG 11 fun v6 => ?_
  refine wG 12 fun v7 => ?_
  refine wP 13 fun v8 => ?_
  exact wE)
theorem n63_7_eq (Q : Ex × St → Prop) (s : St) : wC Try.prog cx63 n63_7 Q s = Q (.ret, s) := yE
theorem n63_6_eq (Q : Ex × St → Prop) (env : Env) (h : Heap) : wC Try.prog cx63 n63_6 Q ⟨env, h⟩ = ( wC Try.prog cx63 n63_7 Q ⟨(Env.put env 4 (env.get 0)), h⟩) := (ySR 3 (cOps (cL n63_6)) (cR n63_6)).trans (by
  refine w0 ?_
  refine wT 23 (env.get 0) ?_
  refine wT 4 (env.get 0) ?_
  exact wE)
theorem n63_1_eq (Q : Ex × St → Prop) (s : St) : wC Try.prog cx63 n63_1 Q s = wC Try.prog cx63 n63_2 (sqW (wC Try.prog cx63 n63_6) Q) s := yS _ _
theorem n63_0_eq (Q : Ex × St → Prop) (env : Env) (h : Heap) : wC Try.prog cx63 n63_0 Q ⟨env, h⟩ = ( wC Try.prog cx63 n63_1 Q ⟨(Env.put env 4 .nilptr), h⟩) := (ySR 0 (cOps (cL n63_0)) (cR n63_0)).trans (by
  refine w0 ?_
  refine wT 4 .nilptr ?_
  exact wE)
theorem fn63 : Try.prog.funcs[63]? = some Try.f63 := by kernel_rfl
theorem q63 {a0 a1 : AV} {h : Heap} {K : AV × Heap → Prop} (H : ∀ env : Env, env.get 0 = a0 → env.get 1 = a1 → wC Try.prog cx63 n63_0 (retW (fun s => (bnd (some (s.env.get 4)) fun v => bnd (some []) fun vs => some (v :: vs))) K) ⟨env, h⟩) : SpecQ Try.prog 63 [a0, a1] h K :=
  bodyW_sound (C := cx63) TT_ok mixed_ok fn63 (by kernel_rfl) (show _ = some n63_0 by kernel_rfl) (by kernel_rfl) (by kernel_rfl) (of_decide_eq_true (by kernel_rfl)) ((show wC Try.prog cx63 n63_0 (retW (fun s => resAll cx63 s Try.f63.results.toList) K) ⟨env0 cx63 [a0, a1], h⟩ = wC Try.prog cx63 n63_0 (retW (fun s => (bnd (some (s.env.get 4)) fun v => bnd (some []) fun vs => some (v :: vs))) K) ⟨[(0, a0), (1, a1), (2, .junk), (3, .junk), (4, .junk), (13, .junk)], h⟩ by kernel_rfl).mpr (H [(0, a0), (1, a1), (2, .junk), (3, .junk), (4, .junk), (13, .junk)] rfl rfl))
def sn63 := And.intro n63_4_eq (And.intro n63_5_eq (And.intro n63_3_eq (And.intro n63_2_eq (And.intro n63_7_eq (And.intro n63_6_eq (And.intro n63_1_eq (n63_0_eq)))))))
-- draws: 
end Go.Vab

/- How the code of a function is read. Printed by wip/tools/gen2.py (own work). -/
namespace Go.Vab
open Go Go.Proofs
/-! (*vestry/pack.Writer).Text -/
def cx40 : Ctx := ⟨fun _ _ _ => none, TT, 30, [5, 6, 7, 8, 9, 10, 11, 12, 13, 14, 15, 16, 17, 19, 20, 21, 22, 23, 24, 25, 26, 27, 28, 29]⟩
noncomputable def n40_0 : Code := bodyOf Try.f40
noncomputable def n40_1 : Code := cR n40_0
noncomputable def n40_2 : Code := cL n40_1
noncomputable def n40_3 : Code := cR n40_2
noncomputable def n40_4 : Code := cL n40_3
noncomputable def n40_5 : Code := cR n40_3
noncomputable def n40_6 : Code := cR n40_1
noncomputable def n40_7 : Code := cR n40_6
theorem n40_4_eq (Q : Ex × St → Prop) (env : Env) (h : Heap) : wC Try.prog cx40 n40_4 Q ⟨env, h⟩ = (Evs (mNilCheck (env.get 0)) fun v1 => Evs (mFieldAddr tWriter v1 1) fun v2 => Evs (stU (.int .i64) v2 (nat 3) h) fun r3 => Q (.nrm, ⟨env, r3.2⟩)) := (yR 2 (cOps n40_4)).trans (by
  refine w0 ?_
  refine wT 19 (env.get 0) ?_
  refine wP 20 fun v1 => ?_
  refine wP 21 fun v2 => ?_
  refine wHn fun r3 => ?_
  exact wE)
theorem n40_5_eq (Q : Ex × St → Prop) (s : St) : wC Try.prog cx40 n40_5 Q s = Q (.nrm, s) := yK
theorem n40_3_eq (Q : Ex × St → Prop) (s : St) : wC Try.prog cx40 n40_3 Q s = cndW (s.env.get 18) (wL Try.prog cx40 n40_4 Q s) (wL Try.prog cx40 n40_5 Q s) := yC 18 _ _
theorem n40_2_eq (Q : Ex × St → Prop) (env : Env) (h : Heap) : wC Try.prog cx40 n40_2 Q ⟨env, h⟩ = (Evs (mBinP .neq (env.get 0) .nilptr) fun v1 => Evs (gv v1 true (some (env.get 0))) fun v3 => Evs (gv v1 true (mNilCheck v3)) fun v4 => Evs (gv v1 true (mFieldAddr tWriter v4 1)) fun v5 => Evs (gv v1 true (mLoad (.int .i64) v5 h)) fun v6 => Evs (gv v1 true (mBin .eql v6 (nat 0))) fun v7 => Evs (mPick v1 v7 (.bool false)) fun v8 => Evs (gv v8 true (some (env.get 1))) fun v10 => Evs (gv v8 true (mLenS v10)) fun v11 => Evs (gv v8 true (mBin .gtr v11 (nat 60000))) fun v12 => Evs (mPick v8 v12 (.bool false)) fun v13 => wC Try.prog cx40 n40_3 Q ⟨(Env.put env 18 v13), h⟩) := (ySR 1 (cOps (cL n40_2)) (cR n40_2)).trans (by
  refine w0 ?_
  refine wT 5 (env.get 0) ?_
  refine wP 6 fun v1 => ?_
  refine wT 7 v1 ?_
  refine wG 8 fun v3 => ?_
  refine wG 9 fun v4 => ?_
  refine wG 10 fun v5 => ?_
  refine wG 11 fun v6 => ?_
  refine wG 12 fun v7 => ?_
  refine wP 13 fun v8 => ?_
  refine wT 14 v8 ?_
  refine wG 15 fun v10 => ?_
  refine wG 16 fun v11 => ?_
  refine wG 17 fun v12 => ?_
  refine wP 18 fun v13 => ?_
  exact wE)
theorem n40_7_eq (Q : Ex × St → Prop) (s : St) : wC Try.prog cx40 n40_7 Q s = Q (.ret, s) := yE
theorem n40_6_eq (Q : Ex × St → Prop) (env : Env) (h : Heap) : wC Try.prog cx40 n40_6 Q ⟨env, h⟩ = (Evs (mLenS (env.get 1)) fun v2 => Evs (mConv .u64 v2) fun v3 => Evs (mBin .and v3 (u64 65535#64)) fun v4 => SpecA Try.prog 38 [(env.get 0), v4, (nat 2)] h fun r5 => SpecA Try.prog 63 [r5.1, (env.get 1)] r5.2 fun r7 => wC Try.prog cx40 n40_7 Q ⟨(Env.put env 4 r7.1), r7.2⟩) := (ySR 3 (cOps (cL n40_6)) (cR n40_6)).trans (by
  refine w0 ?_
  refine wT 22 (env.get 0) ?_
  refine wT 23 (env.get 1) ?_
  refine wP 24 fun v2 => ?_
  refine wP 25 fun v3 => ?_
  refine wP 26 fun v4 => ?_
  refine wH 27 fun r5 => ?_
  refine wT 28 (env.get 1) ?_
  refine wH 29 fun r7 => ?_
  refine wT 4 r7.1 ?_
  exact wE)
theorem n40_1_eq (Q : Ex × St → Prop) (s : St) : wC Try.prog cx40 n40_1 Q s = wC Try.prog cx40 n40_2 (sqW (wC Try.prog cx40 n40_6) Q) s := yS _ _
theorem n40_0_eq (Q : Ex × St → Prop) (env : Env) (h : Heap) : wC Try.prog cx40 n40_0 Q ⟨env, h⟩ = ( wC Try.prog cx40 n40_1 Q ⟨(Env.put env 4 .nilptr), h⟩) := (ySR 0 (cOps (cL n40_0)) (cR n40_0)).trans (by
  refine w0 ?_
  refine wT 4 .nilptr ?_
  exact wE)
theorem fn40 : Try.prog.funcs[40]? = some Try.f40 := by kernel_rfl
theorem q40 {a0 a1 : AV} {h : Heap} {K : AV × Heap → Prop} (H : ∀ env : Env, env.get 0 = a0 → env.get 1 = a1 → wC Try.prog cx40 n40_0 (retW (fun s => (bnd (some (s.env.get 4)) fun v => bnd (some []) fun vs => some (v :: vs))) K) ⟨env, h⟩) : SpecQ Try.prog 40 [a0, a1] h K :=
  bodyW_sound (C := cx40) TT_ok mixed_ok fn40 (by kernel_rfl) (show _ = some n40_0 by kernel_rfl) (by kernel_rfl) (by kernel_rfl) (of_decide_eq_true (by kernel_rfl)) ((show wC Try.prog cx40 n40_0 (retW (fun s => resAll cx40 s Try.f40.results.toList) K) ⟨env0 cx40 [a0, a1], h⟩ = wC Try.prog cx40 n40_0 (retW (fun s => (bnd (some (s.env.get 4)) fun v => bnd (some []) fun vs => some (v :: vs))) K) ⟨[(0, a0), (1, a1), (2, .junk), (3, .junk), (4, .junk), (18, .junk)], h⟩ by kernel_rfl).mpr (H [(0, a0), (1, a1), (2, .junk), (3, .junk), (4, .junk), (18, .junk)] rfl rfl))
def sn40 := And.intro n40_4_eq (And.intro n40_5_eq (And.intro n40_3_eq (And.intro n40_2_eq (And.intro n40_7_eq (And.intro n40_6_eq (And.intro n40_1_eq (n40_0_eq)))))))
-- draws: 
end Go.Vab

/- How the code of a function is read. Printed by wip/tools/gen2.py (own work). -/
namespace Go.Vab
open Go Go.Proofs
/-! (*vestry/forms.writer).point -/
def cx39 : Ctx := ⟨fun _ _ _ => none, TT, 9, [4, 5, 6, 7, 8]⟩
noncomputable def n39_0 : Code := bodyOf Try.f39
noncomputable def n39_1 : Code := cR n39_0
theorem n39_1_ok : treeOk (cOps n39_1).toList [4] [0, 1, 3, 0, 15] = true := by kernel_rfl
theorem n39_1_w (Q : Ex × St → Prop) (env : Env) (h : Heap) (H : Evs (mNilCheck (env.get 0)) fun v1_1 => Evs (mFieldAddr tLwriter v1_1 0) fun v2_2 => Evs (mSliceA (.arr 32 (.int .u8)) (env.get 3) none none none) fun v3_3 => SpecA Try.prog 63 [v2_2, v3_3] h fun r4_4 => Q (.nrm, ⟨env, r4_4.2⟩)) : wC Try.prog cx39 n39_1 Q ⟨env, h⟩ := by
  refine yD 1 (cOps n39_1) [4] [0, 1, 3, 0, 15] [0, 1, 2, 3] n39_1_ok ?_
  refine rT 4 (env.get 0) ?_
  refine rP H 5 fun v1_1 H => ?_
  refine rP H 6 fun v2_2 H => ?_
  refine rP H 7 fun v3_3 H => ?_
  refine rE ?_
  refine tN 4 [] ?_
  refine aN1 ?_
  refine tH H 8 [] [] (fun r4_4 H => ?_)
  refine ⟨sNil, ?_⟩
  refine rE ?_
  exact tE H
theorem n39_0_eq (Q : Ex × St → Prop) (env : Env) (h : Heap) : wC Try.prog cx39 n39_0 Q ⟨env, h⟩ = (Evs (mNew (.arr 32 (.int .u8)) (env.get 1) h) fun r0 => wC Try.prog cx39 n39_1 Q ⟨(Env.put env 3 r0.1), r0.2⟩) := (ySR 0 (cOps (cL n39_0)) (cR n39_0)).trans (by
  refine w0 ?_
  refine wH 3 fun r0 => ?_
  exact wE)
theorem fn39 : Try.prog.funcs[39]? = some Try.f39 := by kernel_rfl
theorem q39 {a0 a1 : AV} {h : Heap} {K : AV × Heap → Prop} (H : ∀ env : Env, env.get 0 = a0 → env.get 1 = a1 → wC Try.prog cx39 n39_0 (retW (fun s => (some [])) K) ⟨env, h⟩) : SpecQ Try.prog 39 [a0, a1] h K :=
  bodyW_sound (C := cx39) TT_ok mixed_ok fn39 (by kernel_rfl) (show _ = some n39_0 by kernel_rfl) (by kernel_rfl) (by kernel_rfl) (of_decide_eq_true (by kernel_rfl)) ((show wC Try.prog cx39 n39_0 (retW (fun s => resAll cx39 s Try.f39.results.toList) K) ⟨env0 cx39 [a0, a1], h⟩ = wC Try.prog cx39 n39_0 (retW (fun s => (some [])) K) ⟨[(0, a0), (1, a1), (2, .junk), (3, .junk)], h⟩ by kernel_rfl).mpr (H [(0, a0), (1, a1), (2, .junk), (3, .junk)] rfl rfl))
def sn39 := n39_0_eq
-- draws: n39_1
end Go.Vab

/- How the code of a function is read. Printed by wip/tools/gen2.py (own work). -/
namespace Go.Vab
open Go Go.Proofs
/-! (*vestry/forms.writer).cipher -/
def cx42 : Ctx := ⟨fun _ _ _ => none, TT, 12, [4, 5, 6, 7, 8, 9, 10, 11]⟩
noncomputable def n42_0 : Code := bodyOf Try.f42
noncomputable def n42_1 : Code := cR n42_0
noncomputable def n42_2 : Code := cR n42_1
theorem n42_2_eq (Q : Ex × St → Prop) (env : Env) (h : Heap) : wC Try.prog cx42 n42_2 Q ⟨env, h⟩ = (Evs (mFieldAddr tCipher (env.get 3) 1) fun v1 => Evs (mLoad (.arr 32 (.int .u8)) v1 h) fun v2 => SpecA Try.prog 39 [(env.get 0), v2] h fun r3 => Q (.nrm, ⟨env, r3.2⟩)) := (yR 2 (cOps n42_2)).trans (by
  refine w0 ?_
  refine wT 8 (env.get 0) ?_
  refine wP 9 fun v1 => ?_
  refine wP 10 fun v2 => ?_
  refine wH 11 fun r3 => ?_
  exact wE)
theorem n42_1_eq (Q : Ex × St → Prop) (env : Env) (h : Heap) : wC Try.prog cx42 n42_1 Q ⟨env, h⟩ = (Evs (mFieldAddr tCipher (env.get 3) 0) fun v1 => Evs (mLoad (.arr 32 (.int .u8)) v1 h) fun v2 => SpecA Try.prog 39 [(env.get 0), v2] h fun r3 => wC Try.prog cx42 n42_2 Q ⟨env, r3.2⟩) := (ySR 1 (cOps (cL n42_1)) (cR n42_1)).trans (by
  refine w0 ?_
  refine wT 4 (env.get 0) ?_
  refine wP 5 fun v1 => ?_
  refine wP 6 fun v2 => ?_
  refine wH 7 fun r3 => ?_
  exact wE)
theorem n42_0_eq (Q : Ex × St → Prop) (env : Env) (h : Heap) : wC Try.prog cx42 n42_0 Q ⟨env, h⟩ = (Evs (mNew tCipher (env.get 1) h) fun r0 => wC Try.prog cx42 n42_1 Q ⟨(Env.put env 3 r0.1), r0.2⟩) := (ySR 0 (cOps (cL n42_0)) (cR n42_0)).trans (by
  refine w0 ?_
  refine wH 3 fun r0 => ?_
  exact wE)
theorem fn42 : Try.prog.funcs[42]? = some Try.f42 := by kernel_rfl
theorem q42 {a0 a1 : AV} {h : Heap} {K : AV × Heap → Prop} (H : ∀ env : Env, env.get 0 = a0 → env.get 1 = a1 → wC Try.prog cx42 n42_0 (retW (fun s => (some [])) K) ⟨env, h⟩) : SpecQ Try.prog 42 [a0, a1] h K :=
  bodyW_sound (C := cx42) TT_ok mixed_ok fn42 (by kernel_rfl) (show _ = some n42_0 by kernel_rfl) (by kernel_rfl) (by kernel_rfl) (of_decide_eq_true (by kernel_rfl)) ((show wC Try.prog cx42 n42_0 (retW (fun s => resAll cx42 s Try.f42.results.toList) K) ⟨env0 cx42 [a0, a1], h⟩ = wC Try.prog cx42 n42_0 (retW (fun s => (some [])) K) ⟨[(0, a0), (1, a1), (2, .junk), (3, .junk)], h⟩ by kernel_rfl).mpr (H [(0, a0), (1, a1), (2, .junk), (3, .junk)] rfl rfl))
def sn42 := And.intro n42_2_eq (And.intro n42_1_eq (n42_0_eq))
-- draws: 
end Go.Vab

/- How the code of a function is read. Printed by wip/tools/gen2.py (own work). -/
namespace Go.Vab
open Go Go.Proofs
/-! (*vestry/forms.writer).access -/
def cx41 : Ctx := ⟨fun _ _ _ => none, TT, 19, [4, 5, 6, 7, 8, 9, 10, 11, 12, 13, 14, 15, 16, 17, 18]⟩
noncomputable def n41_0 : Code := bodyOf Try.f41
noncomputable def n41_1 : Code := cR n41_0
theorem n41_1_ok : treeOk (cOps n41_1).toList [6, 10, 14] [0, 1, 3, 0, 8, 24, 63, 0, 128, 384, 1023, 0, 2048, 6144, 16383] = true := by kernel_rfl
theorem n41_1_w (Q : Ex × St → Prop) (env : Env) (h : Heap) (H : Evs (mNilCheck (env.get 0)) fun v1_1 => Evs (mFieldAddr tLwriter v1_1 0) fun v2_2 => Evs (mFieldAddr tAccess (env.get 3) 0) fun v3_3 => Evs (mLoad (.int .u8) v3_3 h) fun v4_4 => Evs (mConv .u64 v4_4) fun v5_5 => Evs (mFieldAddr tAccess (env.get 3) 1) fun v7_6 => Evs (mLoad (.int .u8) v7_6 h) fun v8_7 => Evs (mConv .u64 v8_7) fun v9_8 => Evs (mFieldAddr tAccess (env.get 3) 2) fun v11_9 => Evs (mLoad (.int .u8) v11_9 h) fun v12_10 => Evs (mConv .u64 v12_10) fun v13_11 => SpecA Try.prog 38 [v2_2, v5_5, (nat 1)] h fun r6_12 => stabP (mLoad (.int .u8) v7_6 r6_12.2 = some v8_7) (stabP (mConv .u64 v8_7 = some v9_8) (stabP (mLoad (.int .u8) v11_9 r6_12.2 = some v12_10) (stabP (mConv .u64 v12_10 = some v13_11) (SpecA Try.prog 38 [r6_12.1, v9_8, (nat 1)] r6_12.2 fun r10_13 => stabP (mLoad (.int .u8) v11_9 r10_13.2 = some v12_10) (stabP (mConv .u64 v12_10 = some v13_11) (SpecA Try.prog 38 [r10_13.1, v13_11, (nat 1)] r10_13.2 fun r14_14 => Q (.nrm, ⟨env, r14_14.2⟩)))))))) : wC Try.prog cx41 n41_1 Q ⟨env, h⟩ := by
  refine yD 1 (cOps n41_1) [6, 10, 14] [0, 1, 3, 0, 8, 24, 63, 0, 128, 384, 1023, 0, 2048, 6144, 16383] [0, 1, 2, 3, 4, 5, 7, 8, 9, 11, 12, 13] n41_1_ok ?_
  refine rT 4 (env.get 0) ?_
  refine rP H 5 fun v1_1 H => ?_
  refine rP H 6 fun v2_2 H => ?_
  refine rP H 7 fun v3_3 H => ?_
  refine rP H 8 fun v4_4 H => ?_
  refine rP H 9 fun v5_5 H => ?_
  refine rP H 11 fun v7_6 H => ?_
  refine rP H 12 fun v8_7 H => ?_
  refine rP H 13 fun v9_8 H => ?_
  refine rP H 15 fun v11_9 H => ?_
  refine rP H 16 fun v12_10 H => ?_
  refine rP H 17 fun v13_11 H => ?_
  refine rE ?_
  refine tN 6 [] ?_
  refine aN1 ?_
  refine tH H 10 [] [8, 9, 12, 13] (fun r6_12 H => ?_)
  refine sP v8_7 12 H (fun H => ?_) (by kernel_rfl) (by kernel_rfl) (by kernel_rfl)
  refine sP v9_8 13 H (fun H => ?_) (by kernel_rfl) (by kernel_rfl) (by kernel_rfl)
  refine sP v12_10 16 H (fun H => ?_) (by kernel_rfl) (by kernel_rfl) (by kernel_rfl)
  refine sP v13_11 17 H (fun H => ?_) (by kernel_rfl) (by kernel_rfl) (by kernel_rfl)
  refine ⟨sNil, ?_⟩
  refine rE ?_
  refine tN 10 [] ?_
  refine aN1 ?_
  refine tH H 14 [] [12, 13] (fun r10_13 H => ?_)
  refine sP v12_10 16 H (fun H => ?_) (by kernel_rfl) (by kernel_rfl) (by kernel_rfl)
  refine sP v13_11 17 H (fun H => ?_) (by kernel_rfl) (by kernel_rfl) (by kernel_rfl)
  refine ⟨sNil, ?_⟩
  refine rE ?_
  refine tN 14 [] ?_
  refine aN1 ?_
  refine tH H 18 [] [] (fun r14_14 H => ?_)
  refine ⟨sNil, ?_⟩
  refine rE ?_
  exact tE H
theorem n41_0_eq (Q : Ex × St → Prop) (env : Env) (h : Heap) : wC Try.prog cx41 n41_0 Q ⟨env, h⟩ = (Evs (mNew tAccess (env.get 1) h) fun r0 => wC Try.prog cx41 n41_1 Q ⟨(Env.put env 3 r0.1), r0.2⟩) := (ySR 0 (cOps (cL n41_0)) (cR n41_0)).trans (by
  refine w0 ?_
  refine wH 3 fun r0 => ?_
  exact wE)
theorem fn41 : Try.prog.funcs[41]? = some Try.f41 := by kernel_rfl
theorem q41 {a0 a1 : AV} {h : Heap} {K : AV × Heap → Prop} (H : ∀ env : Env, env.get 0 = a0 → env.get 1 = a1 → wC Try.prog cx41 n41_0 (retW (fun s => (some [])) K) ⟨env, h⟩) : SpecQ Try.prog 41 [a0, a1] h K :=
  bodyW_sound (C := cx41) TT_ok mixed_ok fn41 (by kernel_rfl) (show _ = some n41_0 by kernel_rfl) (by kernel_rfl) (by kernel_rfl) (of_decide_eq_true (by kernel_rfl)) ((show wC Try.prog cx41 n41_0 (retW (fun s => resAll cx41 s Try.f41.results.toList) K) ⟨env0 cx41 [a0, a1], h⟩ = wC Try.prog cx41 n41_0 (retW (fun s => (some [])) K) ⟨[(0, a0), (1, a1), (2, .junk), (3, .junk)], h⟩ by kernel_rfl).mpr (H [(0, a0), (1, a1), (2, .junk), (3, .junk)] rfl rfl))
def sn41 := n41_0_eq
-- draws: n41_1
end Go.Vab

/- How the code of a function is read. Printed by wip/tools/gen2.py (own work). -/
namespace Go.Vab
open Go Go.Proofs
/-! (*vestry/pack.Writer).Done -/
def cx43 : Ctx := ⟨fun _ _ _ => none, TT, 22, [5, 6, 8, 9, 10, 11, 12, 13, 14, 15, 16, 17, 18, 19, 20, 21]⟩
noncomputable def n43_0 : Code := bodyOf Try.f43
noncomputable def n43_1 : Code := cR n43_0
noncomputable def n43_2 : Code := cL n43_1
noncomputable def n43_3 : Code := cB n43_2
noncomputable def n43_4 : Code := cR n43_3
noncomputable def n43_5 : Code := cL n43_4
noncomputable def n43_6 : Code := cR n43_5
noncomputable def n43_7 : Code := cR n43_4
noncomputable def n43_8 : Code := cR n43_7
noncomputable def n43_9 : Code := cL n43_8
noncomputable def n43_10 : Code := cR n43_9
noncomputable def n43_11 : Code := cR n43_8
noncomputable def n43_12 : Code := cR n43_1
noncomputable def n43_13 : Code := cR n43_12
theorem n43_6_eq (Q : Ex × St → Prop) (s : St) : wC Try.prog cx43 n43_6 Q s = Q (.ret, s) := yE
theorem n43_5_eq (Q : Ex × St → Prop) (env : Env) (h : Heap) : wC Try.prog cx43 n43_5 Q ⟨env, h⟩ = ( wC Try.prog cx43 n43_6 Q ⟨(Env.put (Env.put env 2 .nilslice) 3 (nat 1)), h⟩) := (ySR 2 (cOps (cL n43_5)) (cR n43_5)).trans (by
  refine w0 ?_
  refine wT 2 .nilslice ?_
  refine wT 3 (nat 1) ?_
  exact wE)
theorem n43_10_eq (Q : Ex × St → Prop) (s : St) : wC Try.prog cx43 n43_10 Q s = Q (.ret, s) := yE
theorem n43_9_ok : treeOk (cOps (cL n43_9)).toList [] [0, 1, 3, 7, 0, 31] = true := by kernel_rfl
theorem n43_9_w (Q : Ex × St → Prop) (env : Env) (h : Heap) (H : Evs (mNilCheck (env.get 0)) fun v1_1 => Evs (mFieldAddr tWriter v1_1 1) fun v2_2 => Evs (mLoad (.int .i64) v2_2 h) fun v3_3 => wC Try.prog cx43 n43_10 Q ⟨(Env.put (Env.put env 2 .nilslice) 3 v3_3), h⟩) : wC Try.prog cx43 n43_9 Q ⟨env, h⟩ := by
  refine ySD 4 (cOps (cL n43_9)) (cR n43_9) [] [0, 1, 3, 7, 0, 31] [0, 1, 2, 3, 4, 5] n43_9_ok ?_
  refine rT 13 (env.get 0) ?_
  refine rP H 14 fun v1_1 H => ?_
  refine rP H 15 fun v2_2 H => ?_
  refine rP H 16 fun v3_3 H => ?_
  refine rT 2 .nilslice ?_
  refine rT 3 v3_3 ?_
  refine rE ?_
  exact tE H
theorem n43_11_eq (Q : Ex × St → Prop) (s : St) : wC Try.prog cx43 n43_11 Q s = Q (.nrm, s) := yK
theorem n43_8_eq (Q : Ex × St → Prop) (s : St) : wC Try.prog cx43 n43_8 Q s = cndW (s.env.get 7) (wL Try.prog cx43 n43_9 Q s) (wL Try.prog cx43 n43_11 Q s) := yC 7 _ _
theorem n43_7_eq (Q : Ex × St → Prop) (env : Env) (h : Heap) : wC Try.prog cx43 n43_7 Q ⟨env, h⟩ = (Evs (mNilCheck (env.get 0)) fun v1 => Evs (mFieldAddr tWriter v1 1) fun v2 => Evs (mLoad (.int .i64) v2 h) fun v3 => Evs (mBin .neq v3 (nat 0)) fun v4 => wC Try.prog cx43 n43_8 Q ⟨(Env.put env 7 v4), h⟩) := (ySR 3 (cOps (cL n43_7)) (cR n43_7)).trans (by
  refine w0 ?_
  refine wT 8 (env.get 0) ?_
  refine wP 9 fun v1 => ?_
  refine wP 10 fun v2 => ?_
  refine wP 11 fun v3 => ?_
  refine wP 12 fun v4 => ?_
  refine wT 7 v4 ?_
  exact wE)
theorem n43_4_eq (Q : Ex × St → Prop) (s : St) : wC Try.prog cx43 n43_4 Q s = cndW (s.env.get 4) (wL Try.prog cx43 n43_5 Q s) (wL Try.prog cx43 n43_7 Q s) := yC 4 _ _
theorem n43_3_eq (Q : Ex × St → Prop) (env : Env) (h : Heap) : wC Try.prog cx43 n43_3 Q ⟨env, h⟩ = (Evs (mBinP .eql (env.get 0) .nilptr) fun v1 => wC Try.prog cx43 n43_4 Q ⟨(Env.put env 4 v1), h⟩) := (ySR 1 (cOps (cL n43_3)) (cR n43_3)).trans (by
  refine w0 ?_
  refine wT 5 (env.get 0) ?_
  refine wP 6 fun v1 => ?_
  refine wT 4 v1 ?_
  exact wE)
theorem n43_2_eq (Q : Ex × St → Prop) (s : St) : wC Try.prog cx43 n43_2 Q s = wC Try.prog cx43 n43_3 (fun r => Q (inBlk 0 r)) s := yB 0 _
theorem n43_13_eq (Q : Ex × St → Prop) (s : St) : wC Try.prog cx43 n43_13 Q s = Q (.ret, s) := yE
theorem n43_12_eq (Q : Ex × St → Prop) (env : Env) (h : Heap) : wC Try.prog cx43 n43_12 Q ⟨env, h⟩ = (Evs (mNilCheck (env.get 0)) fun v1 => Evs (mFieldAddr tWriter v1 0) fun v2 => Evs (mLoad .cell v2 h) fun v3 => SpecA Try.prog 64 [v3] h fun r4 => wC Try.prog cx43 n43_13 Q ⟨(Env.put (Env.put env 2 r4.1) 3 (nat 0)), r4.2⟩) := (ySR 5 (cOps (cL n43_12)) (cR n43_12)).trans (by
  refine w0 ?_
  refine wT 17 (env.get 0) ?_
  refine wP 18 fun v1 => ?_
  refine wP 19 fun v2 => ?_
  refine wP 20 fun v3 => ?_
  refine wH 21 fun r4 => ?_
  refine wT 2 r4.1 ?_
  refine wT 3 (nat 0) ?_
  exact wE)
theorem n43_1_eq (Q : Ex × St → Prop) (s : St) : wC Try.prog cx43 n43_1 Q s = wC Try.prog cx43 n43_2 (sqW (wC Try.prog cx43 n43_12) Q) s := yS _ _
theorem n43_0_eq (Q : Ex × St → Prop) (env : Env) (h : Heap) : wC Try.prog cx43 n43_0 Q ⟨env, h⟩ = ( wC Try.prog cx43 n43_1 Q ⟨(Env.put (Env.put env 2 .nilslice) 3 (nat 0)), h⟩) := (ySR 0 (cOps (cL n43_0)) (cR n43_0)).trans (by
  refine w0 ?_
  refine wT 2 .nilslice ?_
  refine wT 3 (nat 0) ?_
  exact wE)
theorem fn43 : Try.prog.funcs[43]? = some Try.f43 := by kernel_rfl
theorem q43 {a0 : AV} {h : Heap} {K : AV × Heap → Prop} (H : ∀ env : Env, env.get 0 = a0 → wC Try.prog cx43 n43_0 (retW (fun s => (bnd (some (s.env.get 2)) fun v => bnd (bnd (some (s.env.get 3)) fun v => bnd (some []) fun vs => some (v :: vs)) fun vs => some (v :: vs))) K) ⟨env, h⟩) : SpecQ Try.prog 43 [a0] h K :=
  bodyW_sound (C := cx43) TT_ok mixed_ok fn43 (by kernel_rfl) (show _ = some n43_0 by kernel_rfl) (by kernel_rfl) (by kernel_rfl) (of_decide_eq_true (by kernel_rfl)) ((show wC Try.prog cx43 n43_0 (retW (fun s => resAll cx43 s Try.f43.results.toList) K) ⟨env0 cx43 [a0], h⟩ = wC Try.prog cx43 n43_0 (retW (fun s => (bnd (some (s.env.get 2)) fun v => bnd (bnd (some (s.env.get 3)) fun v => bnd (some []) fun vs => some (v :: vs)) fun vs => some (v :: vs))) K) ⟨[(0, a0), (1, .junk), (2, .junk), (3, .junk), (4, .junk), (7, .junk)], h⟩ by kernel_rfl).mpr (H [(0, a0), (1, .junk), (2, .junk), (3, .junk), (4, .junk), (7, .junk)] rfl))
def sn43 := And.intro n43_6_eq (And.intro n43_5_eq (And.intro n43_10_eq (And.intro n43_11_eq (And.intro n43_8_eq (And.intro n43_7_eq (And.intro n43_4_eq (And.intro n43_3_eq (And.intro n43_2_eq (And.intro n43_13_eq (And.intro n43_12_eq (And.intro n43_1_eq (n43_0_eq))))))))))))
-- draws: n43_9
end Go.Vab

/- How the code of a function is read. Printed by wip/tools/gen2.py (own work). -/
namespace Go.Vab
open Go Go.Proofs
/-! bytes.Clone -/
def cx64 : Ctx := ⟨fun _ _ _ => none, TT, 8, [3, 5, 6, 7]⟩
noncomputable def n64_0 : Code := bodyOf Try.f64
noncomputable def n64_1 : Code := cR n64_0
noncomputable def n64_2 : Code := cL n64_1
noncomputable def n64_3 : Code := cR n64_2
noncomputable def n64_4 : Code := cL n64_3
noncomputable def n64_5 : Code := cR n64_4
noncomputable def n64_6 : Code := cR n64_3
noncomputable def n64_7 : Code := cR n64_1
noncomputable def n64_8 : Code := cR n64_7
theorem n64_5_eq (Q : Ex × St → Prop) (s : St) : wC Try.prog cx64 n64_5 Q s = Q (.ret, s) := yE
theorem n64_4_eq (Q : Ex × St → Prop) (env : Env) (h : Heap) : wC Try.prog cx64 n64_4 Q ⟨env, h⟩ = ( wC Try.prog cx64 n64_5 Q ⟨(Env.put env 2 .nilslice), h⟩) := (ySR 2 (cOps (cL n64_4)) (cR n64_4)).trans (by
  refine w0 ?_
  refine wT 2 .nilslice ?_
  exact wE)
theorem n64_6_eq (Q : Ex × St → Prop) (s : St) : wC Try.prog cx64 n64_6 Q s = Q (.nrm, s) := yK
theorem n64_3_eq (Q : Ex × St → Prop) (s : St) : wC Try.prog cx64 n64_3 Q s = cndW (s.env.get 4) (wL Try.prog cx64 n64_4 Q s) (wL Try.prog cx64 n64_6 Q s) := yC 4 _ _
theorem n64_2_eq (Q : Ex × St → Prop) (env : Env) (h : Heap) : wC Try.prog cx64 n64_2 Q ⟨env, h⟩ = (Evs (mBinS .eql (env.get 0) .nilslice) fun v1 => wC Try.prog cx64 n64_3 Q ⟨(Env.put env 4 v1), h⟩) := (ySR 1 (cOps (cL n64_2)) (cR n64_2)).trans (by
  refine w0 ?_
  refine wT 3 (env.get 0) ?_
  refine wP 4 fun v1 => ?_
  exact wE)
theorem n64_8_eq (Q : Ex × St → Prop) (s : St) : wC Try.prog cx64 n64_8 Q s = Q (.ret, s) := yE
theorem n64_7_eq (Q : Ex × St → Prop) (env : Env) (h : Heap) : wC Try.prog cx64 n64_7 Q ⟨env, h⟩ = (Evs (mBuildSlice (.int .u8) (u8 0#8) 0 [] h) fun r0 => appA (.int .u8) 1 (u8 0#8) r0.1 (env.get 0) r0.2 fun r2 => wC Try.prog cx64 n64_8 Q ⟨(Env.put env 2 r2.1), r2.2⟩) := (ySR 3 (cOps (cL n64_7)) (cR n64_7)).trans (by
  refine w0 ?_
  refine wH 5 fun r0 => ?_
  refine wT 6 (env.get 0) ?_
  refine wH 7 fun r2 => ?_
  refine wT 2 r2.1 ?_
  exact wE)
theorem n64_1_eq (Q : Ex × St → Prop) (s : St) : wC Try.prog cx64 n64_1 Q s = wC Try.prog cx64 n64_2 (sqW (wC Try.prog cx64 n64_7) Q) s := yS _ _
theorem n64_0_eq (Q : Ex × St → Prop) (env : Env) (h : Heap) : wC Try.prog cx64 n64_0 Q ⟨env, h⟩ = ( wC Try.prog cx64 n64_1 Q ⟨(Env.put env 2 .nilslice), h⟩) := (ySR 0 (cOps (cL n64_0)) (cR n64_0)).trans (by
  refine w0 ?_
  refine wT 2 .nilslice ?_
  exact wE)
theorem fn64 : Try.prog.funcs[64]? = some Try.f64 := by kernel_rfl
theorem q64 {a0 : AV} {h : Heap} {K : AV × Heap → Prop} (H : ∀ env : Env, env.get 0 = a0 → wC Try.prog cx64 n64_0 (retW (fun s => (bnd (some (s.env.get 2)) fun v => bnd (some []) fun vs => some (v :: vs))) K) ⟨env, h⟩) : SpecQ Try.prog 64 [a0] h K :=
  bodyW_sound (C := cx64) TT_ok mixed_ok fn64 (by kernel_rfl) (show _ = some n64_0 by kernel_rfl) (by kernel_rfl) (by kernel_rfl) (of_decide_eq_true (by kernel_rfl)) ((show wC Try.prog cx64 n64_0 (retW (fun s => resAll cx64 s Try.f64.results.toList) K) ⟨env0 cx64 [a0], h⟩ = wC Try.prog cx64 n64_0 (retW (fun s => (bnd (some (s.env.get 2)) fun v => bnd (some []) fun vs => some (v :: vs))) K) ⟨[(0, a0), (1, .junk), (2, .junk), (4, .junk)], h⟩ by kernel_rfl).mpr (H [(0, a0), (1, .junk), (2, .junk), (4, .junk)] rfl))
def sn64 := And.intro n64_5_eq (And.intro n64_4_eq (And.intro n64_6_eq (And.intro n64_3_eq (And.intro n64_2_eq (And.intro n64_8_eq (And.intro n64_7_eq (And.intro n64_1_eq (n64_0_eq))))))))
-- draws: 
end Go.Vab

/-
  The writer, walked.
-/
namespace Go.Vab
open Go Go.Proofs

theorem c38 {h : Heap} {wc : Nat} {x : AV} {l : Bs} {n : BitVec 64} {size : Nat} (hw : Wx h wc x l) (h1 : 1 ≤ size) (h8 : size ≤ 8) (hn : n >>> (8 * size) = 0#64 ∨ size = 8) (hb : l.length + 8 ≤ 1099511627776) :
    SpecQ Try.prog 38 [wp wc, u64 n, nat size] h (WrQ h wc x (l ++ beN n size) (wp wc)) := by
  have gw := hw.blk
  have s1 : ¬ size < 1 := by omega
  have s8 : ¬ 8 < size := by omega
  refine q38 fun env g0 g1 g2 => ?_
  unfold wp at g0
  have hbl : (beN n size).length = size := by simp [beN]
  repeat' (first
    | ((with_reducible apply evs_of); (focus ((conv => lhs; simp (disch := omega) [g0, g1, g2, gw, s1, s8]); done)); try dsimp only)
    | ((with_reducible apply cndW_T); (focus (simp (disch := omega) [g0, g1, g2, gw, s1, s8] <;> omega)))
    | ((with_reducible apply cndW_F); (focus (simp (disch := omega) [g0, g1, g2, gw, s1, s8] <;> omega)))
    | ((with_reducible apply stabP_i); (focus (simp (disch := omega) [g0, g1, g2, gw, s1, s8]; done)))
    | (with_reducible apply wL_i)
    | ((with_reducible apply stabA_i); (focus ((conv => lhs; simp (disch := omega) [g0, g1, g2, gw, s1, s8]); done)))
    | ((with_reducible apply stabA_fn); (focus ((conv => lhs; simp (disch := omega) [g0, g1, g2, gw, s1, s8]); done)))
    | ((with_reducible apply appA_i); (focus ((conv => lhs; simp (disch := omega) [g0, g1, g2, gw, s1, s8]); done)); (focus ((conv => lhs; simp (disch := omega) [g0, g1, g2, gw, s1, s8]); done)))
    | ((with_reducible apply stab_do); (focus (simp (disch := omega) [g0, g1, g2, gw, s1, s8]; done)))
    | (simp (decide := true) only [sn38, sqW_nrm, sqW_exit, sqW_ret, inBlk_nrm, inBlk_ret, inBlk_same, inBlk_exit, if_true, if_false, retW_nrm, retW_ret])
    | (with_reducible refine n38_30_w _ _ _ ?_)
    | ((with_reducible apply cndW_splitE); (focus ((conv => lhs; simp (disch := omega) [g0, g1, g2, gw, s1, s8]); done)); all_goals ((intro hb; try simp only [Bool.not_true, Bool.not_false] at hb); try simp only [hb]))
    | (with_reducible refine gv_split ?_ ?_ <;> (intro hb; try simp only [Bool.not_true, Bool.not_false] at hb) <;> try simp only [hb])
    | (with_reducible refine cndW_split ?_ ?_ <;> (intro hb; try simp only [Bool.not_true, Bool.not_false] at hb) <;> try simp only [hb]))
  all_goals try (exfalso; rcases hn with hn | hn <;> simp_all <;> omega)
  all_goals
    refine loop_up size (fun i st => ∃ env' x' H, st = ⟨env', H⟩ ∧ env'.get 0 = .ptr wc 0 [0] tWriter ∧ env'.get 1 = u64 n ∧ env'.get 2 = nat size ∧ env'.get 44 = nat size ∧ env'.get 45 = nat i ∧ Wx H wc x' (l ++ (beN n size).take i) ∧ KeepW h H wc x x') ?_ ?_ ⟨_, x, h, rfl, by simp [g0], by simp [g1], by simp [g2], by simp [g2], by simp, by simpa using hw, KeepW.refl _ _ _⟩
    · rintro i st hi ⟨env', x', H, rfl, e0, e1, e2, e44, e45, w, kw⟩
      have gw := fun e => (w.app e).blk
      repeat' (first
        | ((with_reducible apply evs_of); (focus ((conv => lhs; simp (disch := omega) [e0, e1, e2, e44, e45, w.blk, gw]); done)); try dsimp only)
        | ((with_reducible apply cndW_T); (focus (simp (disch := omega) [e0, e1, e2, e44, e45, w.blk, gw] <;> omega)))
        | ((with_reducible apply cndW_F); (focus (simp (disch := omega) [e0, e1, e2, e44, e45, w.blk, gw] <;> omega)))
        | ((with_reducible apply stabP_i); (focus (simp (disch := omega) [e0, e1, e2, e44, e45, w.blk, gw]; done)))
        | (with_reducible apply wL_i)
        | ((with_reducible apply stabA_i); (focus ((conv => lhs; simp (disch := omega) [e0, e1, e2, e44, e45, w.blk, gw]); done)))
        | ((with_reducible apply stabA_fn); (focus ((conv => lhs; simp (disch := omega) [e0, e1, e2, e44, e45, w.blk, gw]); done)))
        | ((with_reducible apply appA_i); (focus ((conv => lhs; simp (disch := omega) [e0, e1, e2, e44, e45, w.blk, gw]); done)); (focus ((conv => lhs; simp (disch := omega) [e0, e1, e2, e44, e45, w.blk, gw]); done)))
        | ((with_reducible apply stab_do); (focus (simp (disch := omega) [e0, e1, e2, e44, e45, w.blk, gw]; done)))
        | (simp (decide := true) only [sn38, sqW_nrm, sqW_exit, sqW_ret, inBlk_nrm, inBlk_ret, inBlk_same, inBlk_exit, if_true, if_false, retW_nrm, retW_ret])
        | (with_reducible refine n38_30_w _ _ _ ?_))
      refine appW_wr2 (w.app _) (byt1 _ _ []) (by simp [List.length_take]; omega) fun x2 H2 b2 cl2 w2 k2 => ?_
      repeat' (first
        | ((with_reducible apply evs_of); (focus ((conv => lhs; simp (disch := omega) [e0, e45, b2, cl2]); done)); try dsimp only)
        | ((with_reducible apply cndW_T); (focus (simp (disch := omega) [e0, e45, b2, cl2] <;> omega)))
        | ((with_reducible apply cndW_F); (focus (simp (disch := omega) [e0, e45, b2, cl2] <;> omega)))
        | ((with_reducible apply stabP_i); (focus (simp (disch := omega) [e0, e45, b2, cl2]; done)))
        | (with_reducible apply wL_i)
        | ((with_reducible apply stabA_i); (focus ((conv => lhs; simp (disch := omega) [e0, e45, b2, cl2]); done)))
        | ((with_reducible apply stabA_fn); (focus ((conv => lhs; simp (disch := omega) [e0, e45, b2, cl2]); done)))
        | ((with_reducible apply appA_i); (focus ((conv => lhs; simp (disch := omega) [e0, e45, b2, cl2]); done)); (focus ((conv => lhs; simp (disch := omega) [e0, e45, b2, cl2]); done)))
        | ((with_reducible apply stab_do); (focus (simp (disch := omega) [e0, e45, b2, cl2]; done)))
        | (simp (decide := true) only [sn38, sqW_nrm, sqW_exit, sqW_ret, inBlk_nrm, inBlk_ret, inBlk_same, inBlk_exit, if_true, if_false, retW_nrm, retW_ret])
        | (with_reducible refine n38_30_w _ _ _ ?_))
      refine .inl ⟨by simp, _, x2, _, rfl, by simp [e0], by simp [e1], by simp [e2], by simp [e44], by simp, ?_, (kw.trans (KeepW.ext _ _ _ _)).trans k2⟩
      have : (beN n size).take (i + 1) = (beN n size).take i ++ [(n >>> (8 * (size - 1 - i))).setWidth 8] := by
        rw [List.take_succ]
        congr 1
        simp [beN, hi]
      rw [this, ← List.append_assoc]
      simpa using w2
    · rintro st ⟨env', x', H, rfl, e0, e1, e2, e44, e45, w, kw⟩
      repeat' (first
        | ((with_reducible apply evs_of); (focus ((conv => lhs; simp (disch := omega) [e0, e44, e45]); done)); try dsimp only)
        | ((with_reducible apply cndW_T); (focus (simp (disch := omega) [e0, e44, e45] <;> omega)))
        | ((with_reducible apply cndW_F); (focus (simp (disch := omega) [e0, e44, e45] <;> omega)))
        | ((with_reducible apply stabP_i); (focus (simp (disch := omega) [e0, e44, e45]; done)))
        | (with_reducible apply wL_i)
        | ((with_reducible apply stabA_i); (focus ((conv => lhs; simp (disch := omega) [e0, e44, e45]); done)))
        | ((with_reducible apply stabA_fn); (focus ((conv => lhs; simp (disch := omega) [e0, e44, e45]); done)))
        | ((with_reducible apply appA_i); (focus ((conv => lhs; simp (disch := omega) [e0, e44, e45]); done)); (focus ((conv => lhs; simp (disch := omega) [e0, e44, e45]); done)))
        | ((with_reducible apply stab_do); (focus (simp (disch := omega) [e0, e44, e45]; done)))
        | (simp (decide := true) only [sn38, sqW_nrm, sqW_exit, sqW_ret, inBlk_nrm, inBlk_ret, inBlk_same, inBlk_exit, if_true, if_false, retW_nrm, retW_ret])
        | (with_reducible refine n38_30_w _ _ _ ?_))
      refine ⟨by simp, ?_⟩
      repeat' (first
        | ((with_reducible apply evs_of); (focus ((conv => lhs; simp (disch := omega) [e0]); done)); try dsimp only)
        | ((with_reducible apply cndW_T); (focus (simp (disch := omega) [e0] <;> omega)))
        | ((with_reducible apply cndW_F); (focus (simp (disch := omega) [e0] <;> omega)))
        | ((with_reducible apply stabP_i); (focus (simp (disch := omega) [e0]; done)))
        | (with_reducible apply wL_i)
        | ((with_reducible apply stabA_i); (focus ((conv => lhs; simp (disch := omega) [e0]); done)))
        | ((with_reducible apply stabA_fn); (focus ((conv => lhs; simp (disch := omega) [e0]); done)))
        | ((with_reducible apply appA_i); (focus ((conv => lhs; simp (disch := omega) [e0]); done)); (focus ((conv => lhs; simp (disch := omega) [e0]); done)))
        | ((with_reducible apply stab_do); (focus (simp (disch := omega) [e0]; done)))
        | (simp (decide := true) only [sn38, sqW_nrm, sqW_exit, sqW_ret, inBlk_nrm, inBlk_ret, inBlk_same, inBlk_exit, if_true, if_false, retW_nrm, retW_ret])
        | (with_reducible refine n38_30_w _ _ _ ?_))
      refine ⟨by simp [oneOrTuple, wp], x', ?_, kw⟩
      have : (beN n size).take size = beN n size := List.take_of_length_le (by omega)
      rwa [this] at w

theorem c63 {h : Heap} {wc : Nat} {x y : AV} {l m : Bs} (hw : Wx h wc x l) (hy : BytL h y m) (hb : l.length + m.length ≤ 1099511627776) :
    SpecQ Try.prog 63 [wp wc, y] h (WrQ h wc x (l ++ m) (wp wc)) := by
  have gw := hw.blk
  refine q63 fun env g0 g1 => ?_
  unfold wp at g0
  repeat' (first
    | ((with_reducible apply evs_of); (focus ((conv => lhs; simp (disch := omega) [g0, g1, gw]); done)); try dsimp only)
    | ((with_reducible apply cndW_T); (focus (simp (disch := omega) [g0, g1, gw] <;> omega)))
    | ((with_reducible apply cndW_F); (focus (simp (disch := omega) [g0, g1, gw] <;> omega)))
    | (with_reducible apply wL_i)
    | ((with_reducible apply appA_i); (focus ((conv => lhs; simp (disch := omega) [g0, g1, gw]); done)); (focus ((conv => lhs; simp (disch := omega) [g0, g1, gw]); done)))
    | (simp (decide := true) only [sn63, sqW_nrm, sqW_exit, sqW_ret, inBlk_nrm, inBlk_ret, inBlk_same, inBlk_exit, if_true, if_false, retW_nrm, retW_ret]))
  refine appW_wr2 hw hy hb fun x2 H2 b2 cl2 w2 k2 => ?_
  repeat' (first
    | ((with_reducible apply evs_of); (focus ((conv => lhs; simp (disch := omega) [g0, g1, b2, cl2]); done)); try dsimp only)
    | ((with_reducible apply cndW_T); (focus (simp (disch := omega) [g0, g1, b2, cl2] <;> omega)))
    | ((with_reducible apply cndW_F); (focus (simp (disch := omega) [g0, g1, b2, cl2] <;> omega)))
    | (with_reducible apply wL_i)
    | ((with_reducible apply appA_i); (focus ((conv => lhs; simp (disch := omega) [g0, g1, b2, cl2]); done)); (focus ((conv => lhs; simp (disch := omega) [g0, g1, b2, cl2]); done)))
    | (simp (decide := true) only [sn63, sqW_nrm, sqW_exit, sqW_ret, inBlk_nrm, inBlk_ret, inBlk_same, inBlk_exit, if_true, if_false, retW_nrm, retW_ret]))
  exact ⟨by simp [oneOrTuple, wp], x2, by simpa using w2, by simpa using k2⟩

theorem c40 {h : Heap} {wc : Nat} {x y : AV} {l m : Bs} (hw : Wx h wc x l) (hy : BytL h y m) (hap : Ap h y wc x) (hm : m.length ≤ 60000) (hb : l.length ≤ 1099511000000) :
    SpecQ Try.prog 40 [wp wc, y] h (WrQ h wc x (l ++ beN (BitVec.ofNat 64 m.length) 2 ++ m) (wp wc)) := by
  have gw := hw.blk
  have ly := hy.len
  have hand : BitVec.ofNat 64 m.length &&& 65535#64 = BitVec.ofNat 64 m.length := by
    apply BitVec.eq_of_toNat_eq
    rw [BitVec.toNat_and, BitVec.toNat_ofNat, Nat.mod_eq_of_lt (by omega)]
    show m.length &&& 65535 = _
    rw [show 65535 = 2 ^ 16 - 1 by rfl, Nat.and_two_pow_sub_one_eq_mod, Nat.mod_eq_of_lt (by omega)]
  have hsh : BitVec.ofNat 64 m.length >>> (8 * 2) = 0#64 := by
    apply BitVec.eq_of_toNat_eq
    rw [BitVec.toNat_ushiftRight, BitVec.toNat_ofNat, Nat.mod_eq_of_lt (by omega), Nat.shiftRight_eq_div_pow]
    simp; omega
  refine q40 fun env g0 g1 => ?_
  unfold wp at g0
  repeat' (first
    | ((with_reducible apply evs_of); (focus ((conv => lhs; simp (disch := omega) [g0, g1, gw, ly, hm, hand]); done)); try dsimp only)
    | ((with_reducible apply cndW_T); (focus (simp (disch := omega) [g0, g1, gw, ly, hm, hand] <;> omega)))
    | ((with_reducible apply cndW_F); (focus (simp (disch := omega) [g0, g1, gw, ly, hm, hand] <;> omega)))
    | (with_reducible apply wL_i)
    | ((with_reducible apply SpecA_i); (focus ((conv => lhs; simp (disch := omega) [g0, g1, gw, ly, hm, hand]); done)))
    | (simp (decide := true) only [sn40, sqW_nrm, sqW_exit, sqW_ret, inBlk_nrm, inBlk_ret, inBlk_same, inBlk_exit, if_true, if_false, retW_nrm, retW_ret]))
  refine SpecQ.step (c38 (size := 2) hw (by omega) (by omega) (.inl hsh) (by omega)) ?_
  rintro ⟨v, h'⟩ ⟨rfl, x', w', k'⟩
  unfold wp
  repeat' (first
    | ((with_reducible apply evs_of); (focus ((conv => lhs; simp (disch := omega) [g0, g1]); done)); try dsimp only)
    | ((with_reducible apply cndW_T); (focus (simp (disch := omega) [g0, g1] <;> omega)))
    | ((with_reducible apply cndW_F); (focus (simp (disch := omega) [g0, g1] <;> omega)))
    | (with_reducible apply wL_i)
    | ((with_reducible apply SpecA_i); (focus ((conv => lhs; simp (disch := omega) [g0, g1]); done)))
    | (simp (decide := true) only [sn40, sqW_nrm, sqW_exit, sqW_ret, inBlk_nrm, inBlk_ret, inBlk_same, inBlk_exit, if_true, if_false, retW_nrm, retW_ret]))
  refine SpecQ.step (c63 w' (hy.keep k' hap) (by simp [beN]; omega)) ?_
  rintro ⟨v, h2⟩ ⟨rfl, x2, w2, k2⟩
  repeat' (first
    | ((with_reducible apply evs_of); (focus ((conv => lhs; simp (disch := omega) [g0, g1]); done)); try dsimp only)
    | ((with_reducible apply cndW_T); (focus (simp (disch := omega) [g0, g1] <;> omega)))
    | ((with_reducible apply cndW_F); (focus (simp (disch := omega) [g0, g1] <;> omega)))
    | (with_reducible apply wL_i)
    | ((with_reducible apply SpecA_i); (focus ((conv => lhs; simp (disch := omega) [g0, g1]); done)))
    | (simp (decide := true) only [sn40, sqW_nrm, sqW_exit, sqW_ret, inBlk_nrm, inBlk_ret, inBlk_same, inBlk_exit, if_true, if_false, retW_nrm, retW_ret]))
  exact ⟨by simp [oneOrTuple, wp], x2, w2, k'.trans k2⟩

theorem c39 {h : Heap} {wc : Nat} {x : AV} {l : Bs} {p : Pt} (hw : Wx h wc x l) (hb : l.length + 100 ≤ 1099511627776) :
    SpecQ Try.prog 39 [wq wc, pt p] h (WrQ h wc x (l ++ p.l) (.tuple [])) := by
  refine q39 fun env g0 g1 => ?_
  unfold wq at g0
  repeat' (first
    | ((with_reducible apply evs_of); (focus ((conv => lhs; simp (disch := omega) [g0, g1]); done)); try dsimp only)
    | ((with_reducible apply SpecA_i); (focus ((conv => lhs; simp (disch := omega) [g0, g1]); done)))
    | (simp (decide := true) only [sn39, sqW_nrm, sqW_exit, sqW_ret, inBlk_nrm, inBlk_ret, inBlk_same, inBlk_exit, if_true, if_false, retW_nrm, retW_ret])
    | (with_reducible refine n39_1_w _ _ _ ?_))
  refine SpecQ.step (c63 (hw.app _) (pt_byt (p := p) (by simp)) (by rw [p.h]; omega)) ?_
  rintro ⟨v, h2⟩ ⟨rfl, x2, w2, k2⟩
  repeat' (first
    | ((with_reducible apply evs_of); (focus ((conv => lhs; simp (disch := omega) [g0, g1]); done)); try dsimp only)
    | ((with_reducible apply SpecA_i); (focus ((conv => lhs; simp (disch := omega) [g0, g1]); done)))
    | (simp (decide := true) only [sn39, sqW_nrm, sqW_exit, sqW_ret, inBlk_nrm, inBlk_ret, inBlk_same, inBlk_exit, if_true, if_false, retW_nrm, retW_ret])
    | (with_reducible refine n39_1_w _ _ _ ?_))
  exact ⟨by simp [oneOrTuple], x2, w2, (KeepW.ext _ _ _ _).trans k2⟩

theorem c42 {h : Heap} {wc : Nat} {x : AV} {l : Bs} {c : Ci} (hw : Wx h wc x l) (hb : l.length + 200 ≤ 1099511627776) :
    SpecQ Try.prog 42 [wq wc, eCi c] h (WrQ h wc x (l ++ c.e.l ++ c.f.l) (.tuple [])) := by
  have hx : rb x ≠ some h.length := fun e => by
    obtain ⟨_, ⟨rfl, _⟩ | ⟨b, c, g, rfl, h2, _⟩⟩ := hw.2
    · cases e
    · cases e
      have := (List.getElem?_eq_some_iff.1 h2).1
      omega
  refine q42 fun env g0 g1 => ?_
  unfold wq at g0
  repeat' (first
    | ((with_reducible apply evs_of); (focus ((conv => lhs; simp (disch := omega) [g0, g1]); done)); try dsimp only)
    | ((with_reducible apply SpecA_i); (focus ((conv => lhs; simp (disch := omega) [g0, g1]); done)))
    | (simp (decide := true) only [sn42, sqW_nrm, sqW_exit, sqW_ret, inBlk_nrm, inBlk_ret, inBlk_same, inBlk_exit, if_true, if_false, retW_nrm, retW_ret]))
  refine SpecQ.step (c39 (hw.app _) (by omega)) ?_
  rintro ⟨v, h2⟩ ⟨rfl, x2, w2, k2⟩
  have bc := k2.blk (i := h.length) (ver := 0) (b := ⟨eCi c, 0, .own⟩) (by simp) (by have := hw.lt; omega) hx
  repeat' (first
    | ((with_reducible apply evs_of); (focus ((conv => lhs; simp (disch := omega) [g0, g1, bc]); done)); try dsimp only)
    | ((with_reducible apply SpecA_i); (focus ((conv => lhs; simp (disch := omega) [g0, g1, bc]); done)))
    | (simp (decide := true) only [sn42, sqW_nrm, sqW_exit, sqW_ret, inBlk_nrm, inBlk_ret, inBlk_same, inBlk_exit, if_true, if_false, retW_nrm, retW_ret]))
  refine SpecQ.step (c39 w2 (by rw [List.length_append, c.e.h]; omega)) ?_
  rintro ⟨v, h3⟩ ⟨rfl, x3, w3, k3⟩
  repeat' (first
    | ((with_reducible apply evs_of); (focus ((conv => lhs; simp (disch := omega) [g0, g1, bc]); done)); try dsimp only)
    | ((with_reducible apply SpecA_i); (focus ((conv => lhs; simp (disch := omega) [g0, g1, bc]); done)))
    | (simp (decide := true) only [sn42, sqW_nrm, sqW_exit, sqW_ret, inBlk_nrm, inBlk_ret, inBlk_same, inBlk_exit, if_true, if_false, retW_nrm, retW_ret]))
  exact ⟨by simp [oneOrTuple], x3, w3, ((KeepW.ext _ _ _ _).trans k2).trans k3⟩

theorem sh8 (x : BitVec 8) : (x.setWidth 64) >>> (8 * 1) = 0#64 := by
  apply BitVec.eq_of_toNat_eq
  have := x.isLt
  rw [BitVec.toNat_ushiftRight, BitVec.toNat_setWidth, Nat.mod_eq_of_lt (by omega), Nat.shiftRight_eq_div_pow]
  simp <;> omega

theorem c41 {h : Heap} {wc : Nat} {x : AV} {l : Bs} {a : Acc} (hw : Wx h wc x l) (hb : l.length + 200 ≤ 1099511627776) :
    SpecQ Try.prog 41 [wq wc, eAcc a] h (WrQ h wc x (l ++ beN (a.title.setWidth 64) 1 ++ beN (a.members.setWidth 64) 1 ++ beN (a.link.setWidth 64) 1) (.tuple [])) := by
  have hx : rb x ≠ some h.length := fun e => by
    obtain ⟨_, ⟨rfl, _⟩ | ⟨b, c, g, rfl, h2, _⟩⟩ := hw.2
    · cases e
    · cases e
      have := (List.getElem?_eq_some_iff.1 h2).1
      omega
  have hl : ∀ n : BitVec 64, (beN n 1).length = 1 := fun n => by simp [beN]
  refine q41 fun env g0 g1 => ?_
  unfold wq at g0
  repeat' (first
    | ((with_reducible apply evs_of); (focus ((conv => lhs; simp (disch := omega) [g0, g1]); done)); try dsimp only)
    | ((with_reducible apply stabP_i); (focus (simp (disch := omega) [g0, g1]; done)))
    | ((with_reducible apply SpecA_i); (focus ((conv => lhs; simp (disch := omega) [g0, g1]); done)))
    | ((with_reducible apply stabA_i); (focus ((conv => lhs; simp (disch := omega) [g0, g1]); done)))
    | ((with_reducible apply stabA_fn); (focus ((conv => lhs; simp (disch := omega) [g0, g1]); done)))
    | ((with_reducible apply stab_do); (focus (simp (disch := omega) [g0, g1]; done)))
    | (simp (decide := true) only [sn41, sqW_nrm, sqW_exit, sqW_ret, inBlk_nrm, inBlk_ret, inBlk_same, inBlk_exit, if_true, if_false, retW_nrm, retW_ret])
    | (with_reducible refine n41_1_w _ _ _ ?_))
  refine SpecQ.step (c38 (size := 1) (hw.app _) (by omega) (by omega) (.inl (sh8 _)) (by omega)) ?_
  rintro ⟨v, h2⟩ ⟨rfl, x2, w2, k2⟩
  have b2 := k2.blk (i := h.length) (ver := 0) (b := ⟨eAcc a, 0, .own⟩) (by simp) (by have := hw.lt; omega) hx
  unfold wp
  repeat' (first
    | ((with_reducible apply evs_of); (focus ((conv => lhs; simp (disch := omega) [g0, g1, b2]); done)); try dsimp only)
    | ((with_reducible apply stabP_i); (focus (simp (disch := omega) [g0, g1, b2]; done)))
    | ((with_reducible apply SpecA_i); (focus ((conv => lhs; simp (disch := omega) [g0, g1, b2]); done)))
    | ((with_reducible apply stabA_i); (focus ((conv => lhs; simp (disch := omega) [g0, g1, b2]); done)))
    | ((with_reducible apply stabA_fn); (focus ((conv => lhs; simp (disch := omega) [g0, g1, b2]); done)))
    | ((with_reducible apply stab_do); (focus (simp (disch := omega) [g0, g1, b2]; done)))
    | (simp (decide := true) only [sn41, sqW_nrm, sqW_exit, sqW_ret, inBlk_nrm, inBlk_ret, inBlk_same, inBlk_exit, if_true, if_false, retW_nrm, retW_ret])
    | (with_reducible refine n41_1_w _ _ _ ?_))
  refine SpecQ.step (c38 (size := 1) w2 (by omega) (by omega) (.inl (sh8 _)) (by rw [List.length_append, hl]; omega)) ?_
  rintro ⟨v, h3⟩ ⟨rfl, x3, w3, k3⟩
  have hx2 : rb x2 ≠ some h.length := fun e => by
    rcases k2.row _ e with h4 | h4
    · exact hx h4
    · simp at h4; omega
  have b3 := k3.blk b2 (by have := hw.lt; omega) hx2
  unfold wp
  repeat' (first
    | ((with_reducible apply evs_of); (focus ((conv => lhs; simp (disch := omega) [g0, g1, b2, b3]); done)); try dsimp only)
    | ((with_reducible apply stabP_i); (focus (simp (disch := omega) [g0, g1, b2, b3]; done)))
    | ((with_reducible apply SpecA_i); (focus ((conv => lhs; simp (disch := omega) [g0, g1, b2, b3]); done)))
    | ((with_reducible apply stabA_i); (focus ((conv => lhs; simp (disch := omega) [g0, g1, b2, b3]); done)))
    | ((with_reducible apply stabA_fn); (focus ((conv => lhs; simp (disch := omega) [g0, g1, b2, b3]); done)))
    | ((with_reducible apply stab_do); (focus (simp (disch := omega) [g0, g1, b2, b3]; done)))
    | (simp (decide := true) only [sn41, sqW_nrm, sqW_exit, sqW_ret, inBlk_nrm, inBlk_ret, inBlk_same, inBlk_exit, if_true, if_false, retW_nrm, retW_ret])
    | (with_reducible refine n41_1_w _ _ _ ?_))
  refine SpecQ.step (c38 (size := 1) w3 (by omega) (by omega) (.inl (sh8 _)) (by rw [List.length_append, List.length_append, hl, hl]; omega)) ?_
  rintro ⟨v, h4⟩ ⟨rfl, x4, w4, k4⟩
  repeat' (first
    | ((with_reducible apply evs_of); (focus ((conv => lhs; simp (disch := omega) [g0, g1, b2, b3]); done)); try dsimp only)
    | ((with_reducible apply stabP_i); (focus (simp (disch := omega) [g0, g1, b2, b3]; done)))
    | ((with_reducible apply SpecA_i); (focus ((conv => lhs; simp (disch := omega) [g0, g1, b2, b3]); done)))
    | ((with_reducible apply stabA_i); (focus ((conv => lhs; simp (disch := omega) [g0, g1, b2, b3]); done)))
    | ((with_reducible apply stabA_fn); (focus ((conv => lhs; simp (disch := omega) [g0, g1, b2, b3]); done)))
    | ((with_reducible apply stab_do); (focus (simp (disch := omega) [g0, g1, b2, b3]; done)))
    | (simp (decide := true) only [sn41, sqW_nrm, sqW_exit, sqW_ret, inBlk_nrm, inBlk_ret, inBlk_same, inBlk_exit, if_true, if_false, retW_nrm, retW_ret])
    | (with_reducible refine n41_1_w _ _ _ ?_))
  exact ⟨by simp [oneOrTuple], x4, w4, (((KeepW.ext _ _ _ _).trans k2).trans k3).trans k4⟩

theorem c64 {h : Heap} {y : AV} {m : Bs} (hy : BytL h y m) (hm : m.length ≤ 1099511627776) : SpecQ Try.prog 64 [y] h fun r => ∃ t, r.2 = h ++ t ∧ BytL (h ++ t) r.1 m := by
  refine q64 fun env g0 => ?_
  cases y with
  | nilslice =>
    repeat' (first
      | ((with_reducible apply evs_of); (focus ((conv => lhs; simp (disch := omega) [g0]); done)); try dsimp only)
      | ((with_reducible apply cndW_T); (focus (simp (disch := omega) [g0] <;> omega)))
      | ((with_reducible apply cndW_F); (focus (simp (disch := omega) [g0] <;> omega)))
      | (with_reducible apply wL_i)
      | ((with_reducible apply appA_i); (focus ((conv => lhs; simp (disch := omega) [g0]); done)); (focus ((conv => lhs; simp (disch := omega) [g0]); done)))
      | (simp (decide := true) only [sn64, sqW_nrm, sqW_exit, sqW_ret, inBlk_nrm, inBlk_ret, inBlk_same, inBlk_exit, if_true, if_false, retW_nrm, retW_ret]))
    exact ⟨[], by simp, by simpa [oneOrTuple] using hy⟩
  | slice b ver path t off len cap =>
    repeat' (first
      | ((with_reducible apply evs_of); (focus ((conv => lhs; simp (disch := omega) [g0]); done)); try dsimp only)
      | ((with_reducible apply cndW_T); (focus (simp (disch := omega) [g0] <;> omega)))
      | ((with_reducible apply cndW_F); (focus (simp (disch := omega) [g0] <;> omega)))
      | (with_reducible apply wL_i)
      | ((with_reducible apply appA_i); (focus ((conv => lhs; simp (disch := omega) [g0]); done)); (focus ((conv => lhs; simp (disch := omega) [g0]); done)))
      | (simp (decide := true) only [sn64, sqW_nrm, sqW_exit, sqW_ret, inBlk_nrm, inBlk_ret, inBlk_same, inBlk_exit, if_true, if_false, retW_nrm, retW_ret]))
    refine copyB0 (by simp [mElems_slc]) (hy.app _) (by simp) fun y1 e1 f1 => ?_
    repeat' (first
      | ((with_reducible apply evs_of); (focus ((conv => lhs; simp (disch := omega) [g0]); done)); try dsimp only)
      | ((with_reducible apply cndW_T); (focus (simp (disch := omega) [g0] <;> omega)))
      | ((with_reducible apply cndW_F); (focus (simp (disch := omega) [g0] <;> omega)))
      | (with_reducible apply wL_i)
      | ((with_reducible apply appA_i); (focus ((conv => lhs; simp (disch := omega) [g0]); done)); (focus ((conv => lhs; simp (disch := omega) [g0]); done)))
      | (simp (decide := true) only [sn64, sqW_nrm, sqW_exit, sqW_ret, inBlk_nrm, inBlk_ret, inBlk_same, inBlk_exit, if_true, if_false, retW_nrm, retW_ret]))
    exact ⟨_, rfl, f1.to0 (e := []) (by simp)⟩
  | _ => cases hy.1.2


theorem c43 {h : Heap} {wc : Nat} {x : AV} {l : Bs} (hw : Wx h wc x l) :
    SpecQ Try.prog 43 [wp wc] h fun r => ∃ y t, r = (.tuple [y, nat 0], h ++ t) ∧ BytL (h ++ t) y l := by
  have gw := hw.blk
  refine q43 fun env g0 => ?_
  unfold wp at g0
  repeat' (first
    | ((with_reducible apply evs_of); (focus ((conv => lhs; simp (disch := omega) [g0, gw]); done)); try dsimp only)
    | ((with_reducible apply cndW_T); (focus (simp (disch := omega) [g0, gw] <;> omega)))
    | ((with_reducible apply cndW_F); (focus (simp (disch := omega) [g0, gw] <;> omega)))
    | (with_reducible apply wL_i)
    | ((with_reducible apply SpecA_i); (focus ((conv => lhs; simp (disch := omega) [g0, gw]); done)))
    | (simp (decide := true) only [sn43, sqW_nrm, sqW_exit, sqW_ret, inBlk_nrm, inBlk_ret, inBlk_same, inBlk_exit, if_true, if_false, retW_nrm, retW_ret])
    | (with_reducible refine n43_9_w _ _ _ ?_))
  refine SpecQ.step (c64 hw.2.byt hw.2.1) ?_
  rintro ⟨v, h2⟩ ⟨t, rfl, hv⟩
  repeat' (first
    | ((with_reducible apply evs_of); (focus ((conv => lhs; simp (disch := omega) [g0]); done)); try dsimp only)
    | ((with_reducible apply cndW_T); (focus (simp (disch := omega) [g0] <;> omega)))
    | ((with_reducible apply cndW_F); (focus (simp (disch := omega) [g0] <;> omega)))
    | (with_reducible apply wL_i)
    | ((with_reducible apply SpecA_i); (focus ((conv => lhs; simp (disch := omega) [g0]); done)))
    | (simp (decide := true) only [sn43, sqW_nrm, sqW_exit, sqW_ret, inBlk_nrm, inBlk_ret, inBlk_same, inBlk_exit, if_true, if_false, retW_nrm, retW_ret])
    | (with_reducible refine n43_9_w _ _ _ ?_))
  exact ⟨v, t, by simp [oneOrTuple], hv⟩

end Go.Vab

/- How the code of a function is read. Printed by wip/tools/gen2.py (own work). -/
namespace Go.Vab
open Go Go.Proofs
/-! (*vestry/forms.writer).action -/
def cx45 : Ctx := ⟨fun _ _ _ => none, TT, 62, [5, 6, 7, 8, 9, 10, 11, 12, 13, 14, 15, 16, 17, 18, 19, 21, 22, 23, 24, 25, 27, 28, 29, 30, 31, 33, 34, 35, 36, 37, 38, 39, 40, 42, 43, 44, 45, 46, 47, 48, 50, 51, 52, 53, 54, 56, 57, 58, 59, 60, 61]⟩
noncomputable def n45_0 : Code := bodyOf Try.f45
noncomputable def n45_1 : Code := cR n45_0
noncomputable def n45_2 : Code := cR n45_1
noncomputable def n45_3 : Code := cR n45_2
noncomputable def n45_4 : Code := cL n45_3
noncomputable def n45_5 : Code := cR n45_4
noncomputable def n45_6 : Code := cL n45_5
noncomputable def n45_7 : Code := cR n45_5
noncomputable def n45_8 : Code := cR n45_3
noncomputable def n45_9 : Code := cL n45_8
noncomputable def n45_10 : Code := cR n45_9
noncomputable def n45_11 : Code := cL n45_10
noncomputable def n45_12 : Code := cR n45_10
noncomputable def n45_13 : Code := cR n45_8
noncomputable def n45_14 : Code := cL n45_13
noncomputable def n45_15 : Code := cR n45_14
noncomputable def n45_16 : Code := cL n45_15
noncomputable def n45_17 : Code := cR n45_15
noncomputable def n45_18 : Code := cR n45_13
noncomputable def n45_19 : Code := cL n45_18
noncomputable def n45_20 : Code := cR n45_19
noncomputable def n45_21 : Code := cL n45_20
noncomputable def n45_22 : Code := cR n45_20
noncomputable def n45_23 : Code := cR n45_18
noncomputable def n45_24 : Code := cL n45_23
noncomputable def n45_25 : Code := cR n45_24
noncomputable def n45_26 : Code := cL n45_25
noncomputable def n45_27 : Code := cR n45_25
noncomputable def n45_28 : Code := cR n45_23
noncomputable def n45_29 : Code := cR n45_28
noncomputable def n45_30 : Code := cL n45_29
noncomputable def n45_31 : Code := cR n45_29
theorem n45_6_eq (Q : Ex × St → Prop) (env : Env) (h : Heap) : wC Try.prog cx45 n45_6 Q ⟨env, h⟩ = (Evs (mFieldAddr tAction (env.get 3) 2) fun v1 => Evs (mLoad tCipher v1 h) fun v2 => SpecA Try.prog 42 [(env.get 0), v2] h fun r3 => Q (.nrm, ⟨env, r3.2⟩)) := (yR 4 (cOps n45_6)).trans (by
  refine w0 ?_
  refine wT 21 (env.get 0) ?_
  refine wP 22 fun v1 => ?_
  refine wP 23 fun v2 => ?_
  refine wH 24 fun r3 => ?_
  exact wE)
theorem n45_7_eq (Q : Ex × St → Prop) (s : St) : wC Try.prog cx45 n45_7 Q s = Q (.nrm, s) := yK
theorem n45_5_eq (Q : Ex × St → Prop) (s : St) : wC Try.prog cx45 n45_5 Q s = cndW (s.env.get 20) (wL Try.prog cx45 n45_6 Q s) (wL Try.prog cx45 n45_7 Q s) := yC 20 _ _
theorem n45_4_eq (Q : Ex × St → Prop) (env : Env) (h : Heap) : wC Try.prog cx45 n45_4 Q ⟨env, h⟩ = (Evs (mFieldAddr tLhas (env.get 4) 0) fun v0 => Evs (mLoad .cell v0 h) fun v1 => wC Try.prog cx45 n45_5 Q ⟨(Env.put env 20 v1), h⟩) := (ySR 3 (cOps (cL n45_4)) (cR n45_4)).trans (by
  refine w0 ?_
  refine wP 19 fun v0 => ?_
  refine wP 20 fun v1 => ?_
  exact wE)
theorem n45_11_eq (Q : Ex × St → Prop) (env : Env) (h : Heap) : wC Try.prog cx45 n45_11 Q ⟨env, h⟩ = (Evs (mFieldAddr tAction (env.get 3) 3) fun v1 => Evs (mLoad (.arr 32 (.int .u8)) v1 h) fun v2 => SpecA Try.prog 39 [(env.get 0), v2] h fun r3 => Q (.nrm, ⟨env, r3.2⟩)) := (yR 6 (cOps n45_11)).trans (by
  refine w0 ?_
  refine wT 27 (env.get 0) ?_
  refine wP 28 fun v1 => ?_
  refine wP 29 fun v2 => ?_
  refine wH 30 fun r3 => ?_
  exact wE)
theorem n45_12_eq (Q : Ex × St → Prop) (s : St) : wC Try.prog cx45 n45_12 Q s = Q (.nrm, s) := yK
theorem n45_10_eq (Q : Ex × St → Prop) (s : St) : wC Try.prog cx45 n45_10 Q s = cndW (s.env.get 26) (wL Try.prog cx45 n45_11 Q s) (wL Try.prog cx45 n45_12 Q s) := yC 26 _ _
theorem n45_9_eq (Q : Ex × St → Prop) (env : Env) (h : Heap) : wC Try.prog cx45 n45_9 Q ⟨env, h⟩ = (Evs (mFieldAddr tLhas (env.get 4) 1) fun v0 => Evs (mLoad .cell v0 h) fun v1 => wC Try.prog cx45 n45_10 Q ⟨(Env.put env 26 v1), h⟩) := (ySR 5 (cOps (cL n45_9)) (cR n45_9)).trans (by
  refine w0 ?_
  refine wP 25 fun v0 => ?_
  refine wP 26 fun v1 => ?_
  exact wE)
theorem n45_16_ok : treeOk (cOps n45_16).toList [6] [0, 1, 3, 0, 8, 24, 63] = true := by kernel_rfl
theorem n45_16_w (Q : Ex × St → Prop) (env : Env) (h : Heap) (H : Evs (mNilCheck (env.get 0)) fun v1_1 => Evs (mFieldAddr tLwriter v1_1 0) fun v2_2 => Evs (mFieldAddr tAction (env.get 3) 4) fun v3_3 => Evs (mLoad (.int .u8) v3_3 h) fun v4_4 => Evs (mConv .u64 v4_4) fun v5_5 => SpecA Try.prog 38 [v2_2, v5_5, (nat 1)] h fun r6_6 => Q (.nrm, ⟨env, r6_6.2⟩)) : wC Try.prog cx45 n45_16 Q ⟨env, h⟩ := by
  refine yD 8 (cOps n45_16) [6] [0, 1, 3, 0, 8, 24, 63] [0, 1, 2, 3, 4, 5] n45_16_ok ?_
  refine rT 33 (env.get 0) ?_
  refine rP H 34 fun v1_1 H => ?_
  refine rP H 35 fun v2_2 H => ?_
  refine rP H 36 fun v3_3 H => ?_
  refine rP H 37 fun v4_4 H => ?_
  refine rP H 38 fun v5_5 H => ?_
  refine rE ?_
  refine tN 6 [] ?_
  refine aN1 ?_
  refine tH H 39 [] [] (fun r6_6 H => ?_)
  refine ⟨sNil, ?_⟩
  refine rE ?_
  exact tE H
theorem n45_17_eq (Q : Ex × St → Prop) (s : St) : wC Try.prog cx45 n45_17 Q s = Q (.nrm, s) := yK
theorem n45_15_eq (Q : Ex × St → Prop) (s : St) : wC Try.prog cx45 n45_15 Q s = cndW (s.env.get 32) (wL Try.prog cx45 n45_16 Q s) (wL Try.prog cx45 n45_17 Q s) := yC 32 _ _
theorem n45_14_eq (Q : Ex × St → Prop) (env : Env) (h : Heap) : wC Try.prog cx45 n45_14 Q ⟨env, h⟩ = (Evs (mFieldAddr tLhas (env.get 4) 2) fun v0 => Evs (mLoad .cell v0 h) fun v1 => wC Try.prog cx45 n45_15 Q ⟨(Env.put env 32 v1), h⟩) := (ySR 7 (cOps (cL n45_14)) (cR n45_14)).trans (by
  refine w0 ?_
  refine wP 31 fun v0 => ?_
  refine wP 32 fun v1 => ?_
  exact wE)
theorem n45_21_ok : treeOk (cOps n45_21).toList [5] [0, 1, 3, 0, 8, 31] = true := by kernel_rfl
theorem n45_21_w (Q : Ex × St → Prop) (env : Env) (h : Heap) (H : Evs (mNilCheck (env.get 0)) fun v1_1 => Evs (mFieldAddr tLwriter v1_1 0) fun v2_2 => Evs (mFieldAddr tAction (env.get 3) 5) fun v3_3 => Evs (mLoad .cell v3_3 h) fun v4_4 => SpecA Try.prog 40 [v2_2, v4_4] h fun r5_5 => Q (.nrm, ⟨env, r5_5.2⟩)) : wC Try.prog cx45 n45_21 Q ⟨env, h⟩ := by
  refine yD 10 (cOps n45_21) [5] [0, 1, 3, 0, 8, 31] [0, 1, 2, 3, 4] n45_21_ok ?_
  refine rT 42 (env.get 0) ?_
  refine rP H 43 fun v1_1 H => ?_
  refine rP H 44 fun v2_2 H => ?_
  refine rP H 45 fun v3_3 H => ?_
  refine rP H 46 fun v4_4 H => ?_
  refine rE ?_
  refine tN 5 [] ?_
  refine aN1 ?_
  refine tH H 47 [] [] (fun r5_5 H => ?_)
  refine ⟨sNil, ?_⟩
  refine rE ?_
  exact tE H
theorem n45_22_eq (Q : Ex × St → Prop) (s : St) : wC Try.prog cx45 n45_22 Q s = Q (.nrm, s) := yK
theorem n45_20_eq (Q : Ex × St → Prop) (s : St) : wC Try.prog cx45 n45_20 Q s = cndW (s.env.get 41) (wL Try.prog cx45 n45_21 Q s) (wL Try.prog cx45 n45_22 Q s) := yC 41 _ _
theorem n45_19_eq (Q : Ex × St → Prop) (env : Env) (h : Heap) : wC Try.prog cx45 n45_19 Q ⟨env, h⟩ = (Evs (mFieldAddr tLhas (env.get 4) 3) fun v0 => Evs (mLoad .cell v0 h) fun v1 => wC Try.prog cx45 n45_20 Q ⟨(Env.put env 41 v1), h⟩) := (ySR 9 (cOps (cL n45_19)) (cR n45_19)).trans (by
  refine w0 ?_
  refine wP 40 fun v0 => ?_
  refine wP 41 fun v1 => ?_
  exact wE)
theorem n45_26_eq (Q : Ex × St → Prop) (env : Env) (h : Heap) : wC Try.prog cx45 n45_26 Q ⟨env, h⟩ = (Evs (mFieldAddr tAction (env.get 3) 6) fun v1 => Evs (mLoad tAccess v1 h) fun v2 => SpecA Try.prog 41 [(env.get 0), v2] h fun r3 => Q (.nrm, ⟨env, r3.2⟩)) := (yR 12 (cOps n45_26)).trans (by
  refine w0 ?_
  refine wT 50 (env.get 0) ?_
  refine wP 51 fun v1 => ?_
  refine wP 52 fun v2 => ?_
  refine wH 53 fun r3 => ?_
  exact wE)
theorem n45_27_eq (Q : Ex × St → Prop) (s : St) : wC Try.prog cx45 n45_27 Q s = Q (.nrm, s) := yK
theorem n45_25_eq (Q : Ex × St → Prop) (s : St) : wC Try.prog cx45 n45_25 Q s = cndW (s.env.get 49) (wL Try.prog cx45 n45_26 Q s) (wL Try.prog cx45 n45_27 Q s) := yC 49 _ _
theorem n45_24_eq (Q : Ex × St → Prop) (env : Env) (h : Heap) : wC Try.prog cx45 n45_24 Q ⟨env, h⟩ = (Evs (mFieldAddr tLhas (env.get 4) 4) fun v0 => Evs (mLoad .cell v0 h) fun v1 => wC Try.prog cx45 n45_25 Q ⟨(Env.put env 49 v1), h⟩) := (ySR 11 (cOps (cL n45_24)) (cR n45_24)).trans (by
  refine w0 ?_
  refine wP 48 fun v0 => ?_
  refine wP 49 fun v1 => ?_
  exact wE)
theorem n45_30_ok : treeOk (cOps n45_30).toList [5] [0, 1, 3, 0, 8, 31] = true := by kernel_rfl
theorem n45_30_w (Q : Ex × St → Prop) (env : Env) (h : Heap) (H : Evs (mNilCheck (env.get 0)) fun v1_1 => Evs (mFieldAddr tLwriter v1_1 0) fun v2_2 => Evs (mFieldAddr tAction (env.get 3) 7) fun v3_3 => Evs (mLoad .cell v3_3 h) fun v4_4 => SpecA Try.prog 40 [v2_2, v4_4] h fun r5_5 => Q (.nrm, ⟨env, r5_5.2⟩)) : wC Try.prog cx45 n45_30 Q ⟨env, h⟩ := by
  refine yD 14 (cOps n45_30) [5] [0, 1, 3, 0, 8, 31] [0, 1, 2, 3, 4] n45_30_ok ?_
  refine rT 56 (env.get 0) ?_
  refine rP H 57 fun v1_1 H => ?_
  refine rP H 58 fun v2_2 H => ?_
  refine rP H 59 fun v3_3 H => ?_
  refine rP H 60 fun v4_4 H => ?_
  refine rE ?_
  refine tN 5 [] ?_
  refine aN1 ?_
  refine tH H 61 [] [] (fun r5_5 H => ?_)
  refine ⟨sNil, ?_⟩
  refine rE ?_
  exact tE H
theorem n45_31_eq (Q : Ex × St → Prop) (s : St) : wC Try.prog cx45 n45_31 Q s = Q (.nrm, s) := yK
theorem n45_29_eq (Q : Ex × St → Prop) (s : St) : wC Try.prog cx45 n45_29 Q s = cndW (s.env.get 55) (wL Try.prog cx45 n45_30 Q s) (wL Try.prog cx45 n45_31 Q s) := yC 55 _ _
theorem n45_28_eq (Q : Ex × St → Prop) (env : Env) (h : Heap) : wC Try.prog cx45 n45_28 Q ⟨env, h⟩ = (Evs (mFieldAddr tLhas (env.get 4) 5) fun v0 => Evs (mLoad .cell v0 h) fun v1 => wC Try.prog cx45 n45_29 Q ⟨(Env.put env 55 v1), h⟩) := (ySR 13 (cOps (cL n45_28)) (cR n45_28)).trans (by
  refine w0 ?_
  refine wP 54 fun v0 => ?_
  refine wP 55 fun v1 => ?_
  exact wE)
theorem n45_23_eq (Q : Ex × St → Prop) (s : St) : wC Try.prog cx45 n45_23 Q s = wC Try.prog cx45 n45_24 (sqW (wC Try.prog cx45 n45_28) Q) s := yS _ _
theorem n45_18_eq (Q : Ex × St → Prop) (s : St) : wC Try.prog cx45 n45_18 Q s = wC Try.prog cx45 n45_19 (sqW (wC Try.prog cx45 n45_23) Q) s := yS _ _
theorem n45_13_eq (Q : Ex × St → Prop) (s : St) : wC Try.prog cx45 n45_13 Q s = wC Try.prog cx45 n45_14 (sqW (wC Try.prog cx45 n45_18) Q) s := yS _ _
theorem n45_8_eq (Q : Ex × St → Prop) (s : St) : wC Try.prog cx45 n45_8 Q s = wC Try.prog cx45 n45_9 (sqW (wC Try.prog cx45 n45_13) Q) s := yS _ _
theorem n45_3_eq (Q : Ex × St → Prop) (s : St) : wC Try.prog cx45 n45_3 Q s = wC Try.prog cx45 n45_4 (sqW (wC Try.prog cx45 n45_8) Q) s := yS _ _
theorem n45_2_ok : treeOk (cOps (cL n45_2)).toList [6, 10] [0, 1, 3, 0, 8, 24, 63, 0, 128, 384, 1023] = true := by kernel_rfl
theorem n45_2_w (Q : Ex × St → Prop) (env : Env) (h : Heap) (H : Evs (mNilCheck (env.get 0)) fun v1_1 => Evs (mFieldAddr tLwriter v1_1 0) fun v2_2 => Evs (mFieldAddr tAction (env.get 3) 0) fun v3_3 => Evs (mLoad (.int .u32) v3_3 h) fun v4_4 => Evs (mConv .u64 v4_4) fun v5_5 => Evs (mFieldAddr tAction (env.get 3) 1) fun v7_6 => Evs (mLoad (.int .u8) v7_6 h) fun v8_7 => Evs (mConv .u64 v8_7) fun v9_8 => SpecA Try.prog 38 [v2_2, v5_5, (nat 4)] h fun r6_9 => stabP (mLoad (.int .u8) v7_6 r6_9.2 = some v8_7) (stabP (mConv .u64 v8_7 = some v9_8) (SpecA Try.prog 38 [r6_9.1, v9_8, (nat 1)] r6_9.2 fun r10_10 => wC Try.prog cx45 n45_3 Q ⟨env, r10_10.2⟩))) : wC Try.prog cx45 n45_2 Q ⟨env, h⟩ := by
  refine ySD 2 (cOps (cL n45_2)) (cR n45_2) [6, 10] [0, 1, 3, 0, 8, 24, 63, 0, 128, 384, 1023] [0, 1, 2, 3, 4, 5, 7, 8, 9] n45_2_ok ?_
  refine rT 8 (env.get 0) ?_
  refine rP H 9 fun v1_1 H => ?_
  refine rP H 10 fun v2_2 H => ?_
  refine rP H 11 fun v3_3 H => ?_
  refine rP H 12 fun v4_4 H => ?_
  refine rP H 13 fun v5_5 H => ?_
  refine rP H 15 fun v7_6 H => ?_
  refine rP H 16 fun v8_7 H => ?_
  refine rP H 17 fun v9_8 H => ?_
  refine rE ?_
  refine tN 6 [] ?_
  refine aN1 ?_
  refine tH H 14 [] [8, 9] (fun r6_9 H => ?_)
  refine sP v8_7 16 H (fun H => ?_) (by kernel_rfl) (by kernel_rfl) (by kernel_rfl)
  refine sP v9_8 17 H (fun H => ?_) (by kernel_rfl) (by kernel_rfl) (by kernel_rfl)
  refine ⟨sNil, ?_⟩
  refine rE ?_
  refine tN 10 [] ?_
  refine aN1 ?_
  refine tH H 18 [] [] (fun r10_10 H => ?_)
  refine ⟨sNil, ?_⟩
  refine rE ?_
  exact tE H
theorem n45_1_eq (Q : Ex × St → Prop) (env : Env) (h : Heap) : wC Try.prog cx45 n45_1 Q ⟨env, h⟩ = (Evs (mFieldAddr tAction (env.get 3) 1) fun v0 => Evs (mLoad (.int .u8) v0 h) fun v1 => SpecA Try.prog 65 [v1] h fun r2 => Evs (mNew tLhas (.node [(.bool false), (.bool false), (.bool false), (.bool false), (.bool false), (.bool false)]) r2.2) fun r3 => Evs (stU tLhas r3.1 r2.1 r3.2) fun r4 => wC Try.prog cx45 n45_2 Q ⟨(Env.put env 4 r3.1), r4.2⟩) := (ySR 1 (cOps (cL n45_1)) (cR n45_1)).trans (by
  refine w0 ?_
  refine wP 5 fun v0 => ?_
  refine wP 6 fun v1 => ?_
  refine wH 7 fun r2 => ?_
  refine wH 4 fun r3 => ?_
  refine wHn fun r4 => ?_
  exact wE)
theorem n45_0_eq (Q : Ex × St → Prop) (env : Env) (h : Heap) : wC Try.prog cx45 n45_0 Q ⟨env, h⟩ = (Evs (mNew tAction (env.get 1) h) fun r0 => wC Try.prog cx45 n45_1 Q ⟨(Env.put env 3 r0.1), r0.2⟩) := (ySR 0 (cOps (cL n45_0)) (cR n45_0)).trans (by
  refine w0 ?_
  refine wH 3 fun r0 => ?_
  exact wE)
theorem fn45 : Try.prog.funcs[45]? = some Try.f45 := by kernel_rfl
theorem q45 {a0 a1 : AV} {h : Heap} {K : AV × Heap → Prop} (H : ∀ env : Env, env.get 0 = a0 → env.get 1 = a1 → wC Try.prog cx45 n45_0 (retW (fun s => (some [])) K) ⟨env, h⟩) : SpecQ Try.prog 45 [a0, a1] h K :=
  bodyW_sound (C := cx45) TT_ok mixed_ok fn45 (by kernel_rfl) (show _ = some n45_0 by kernel_rfl) (by kernel_rfl) (by kernel_rfl) (of_decide_eq_true (by kernel_rfl)) ((show wC Try.prog cx45 n45_0 (retW (fun s => resAll cx45 s Try.f45.results.toList) K) ⟨env0 cx45 [a0, a1], h⟩ = wC Try.prog cx45 n45_0 (retW (fun s => (some [])) K) ⟨[(0, a0), (1, a1), (2, .junk), (3, .junk), (4, .junk), (20, .junk), (26, .junk), (32, .junk), (41, .junk), (49, .junk), (55, .junk)], h⟩ by kernel_rfl).mpr (H [(0, a0), (1, a1), (2, .junk), (3, .junk), (4, .junk), (20, .junk), (26, .junk), (32, .junk), (41, .junk), (49, .junk), (55, .junk)] rfl rfl))
def sn45 := And.intro n45_6_eq (And.intro n45_7_eq (And.intro n45_5_eq (And.intro n45_4_eq (And.intro n45_11_eq (And.intro n45_12_eq (And.intro n45_10_eq (And.intro n45_9_eq (And.intro n45_17_eq (And.intro n45_15_eq (And.intro n45_14_eq (And.intro n45_22_eq (And.intro n45_20_eq (And.intro n45_19_eq (And.intro n45_26_eq (And.intro n45_27_eq (And.intro n45_25_eq (And.intro n45_24_eq (And.intro n45_31_eq (And.intro n45_29_eq (And.intro n45_28_eq (And.intro n45_23_eq (And.intro n45_18_eq (And.intro n45_13_eq (And.intro n45_8_eq (And.intro n45_3_eq (And.intro n45_1_eq (n45_0_eq)))))))))))))))))))))))))))
-- draws: n45_16 n45_21 n45_30 n45_2
end Go.Vab

/- How the code of a function is read. Printed by wip/tools/gen2.py (own work). -/
namespace Go.Vab
open Go Go.Proofs
/-! vestry/forms.Action -/
def cx22 : Ctx := ⟨fun _ _ _ => none, TT, 14, [5, 6, 8, 9, 10, 11, 12, 13]⟩
noncomputable def n22_0 : Code := bodyOf Try.f22
noncomputable def n22_1 : Code := cR n22_0
noncomputable def n22_2 : Code := cL n22_1
noncomputable def n22_3 : Code := cR n22_2
noncomputable def n22_4 : Code := cL n22_3
noncomputable def n22_5 : Code := cR n22_4
noncomputable def n22_6 : Code := cR n22_3
noncomputable def n22_7 : Code := cR n22_1
noncomputable def n22_8 : Code := cR n22_7
noncomputable def n22_9 : Code := cR n22_8
noncomputable def n22_10 : Code := cR n22_9
theorem n22_5_eq (Q : Ex × St → Prop) (s : St) : wC Try.prog cx22 n22_5 Q s = Q (.ret, s) := yE
theorem n22_4_eq (Q : Ex × St → Prop) (env : Env) (h : Heap) : wC Try.prog cx22 n22_4 Q ⟨env, h⟩ = ( wC Try.prog cx22 n22_5 Q ⟨(Env.put (Env.put env 2 .nilslice) 3 (nat 2)), h⟩) := (ySR 2 (cOps (cL n22_4)) (cR n22_4)).trans (by
  refine w0 ?_
  refine wT 2 .nilslice ?_
  refine wT 3 (nat 2) ?_
  exact wE)
theorem n22_6_eq (Q : Ex × St → Prop) (s : St) : wC Try.prog cx22 n22_6 Q s = Q (.nrm, s) := yK
theorem n22_3_eq (Q : Ex × St → Prop) (s : St) : wC Try.prog cx22 n22_3 Q s = cndW (s.env.get 7) (wL Try.prog cx22 n22_4 Q s) (wL Try.prog cx22 n22_6 Q s) := yC 7 _ _
theorem n22_2_eq (Q : Ex × St → Prop) (env : Env) (h : Heap) : wC Try.prog cx22 n22_2 Q ⟨env, h⟩ = (Evs (mLoad tAction (env.get 1) h) fun v0 => SpecA Try.prog 44 [v0] h fun r1 => Evs (mUn .not r1.1) fun v2 => wC Try.prog cx22 n22_3 Q ⟨(Env.put env 7 v2), r1.2⟩) := (ySR 1 (cOps (cL n22_2)) (cR n22_2)).trans (by
  refine w0 ?_
  refine wP 5 fun v0 => ?_
  refine wH 6 fun r1 => ?_
  refine wP 7 fun v2 => ?_
  exact wE)
theorem n22_10_eq (Q : Ex × St → Prop) (s : St) : wC Try.prog cx22 n22_10 Q s = Q (.ret, s) := yE
theorem n22_9_eq (Q : Ex × St → Prop) (env : Env) (h : Heap) : wC Try.prog cx22 n22_9 Q ⟨env, h⟩ = (Evs (mFieldAddr tLwriter (env.get 4) 0) fun v0 => SpecA Try.prog 43 [v0] h fun r1 => Evs (mExtract r1.1 0) fun v2 => Evs (mExtract r1.1 1) fun v3 => wC Try.prog cx22 n22_10 Q ⟨(Env.put (Env.put env 2 v2) 3 v3), r1.2⟩) := (ySR 5 (cOps (cL n22_9)) (cR n22_9)).trans (by
  refine w0 ?_
  refine wP 10 fun v0 => ?_
  refine wH 11 fun r1 => ?_
  refine wP 12 fun v2 => ?_
  refine wP 13 fun v3 => ?_
  refine wT 2 v2 ?_
  refine wT 3 v3 ?_
  exact wE)
theorem n22_8_eq (Q : Ex × St → Prop) (env : Env) (h : Heap) : wC Try.prog cx22 n22_8 Q ⟨env, h⟩ = (Evs (mLoad tAction (env.get 1) h) fun v0 => SpecA Try.prog 45 [(env.get 4), v0] h fun r1 => wC Try.prog cx22 n22_9 Q ⟨env, r1.2⟩) := (ySR 4 (cOps (cL n22_8)) (cR n22_8)).trans (by
  refine w0 ?_
  refine wP 8 fun v0 => ?_
  refine wH 9 fun r1 => ?_
  exact wE)
theorem n22_7_eq (Q : Ex × St → Prop) (env : Env) (h : Heap) : wC Try.prog cx22 n22_7 Q ⟨env, h⟩ = (Evs (mNew tLwriter (.node [(.node [.nilslice, (nat 0)])]) h) fun r0 => wC Try.prog cx22 n22_8 Q ⟨(Env.put env 4 r0.1), r0.2⟩) := (ySR 3 (cOps (cL n22_7)) (cR n22_7)).trans (by
  refine w0 ?_
  refine wH 4 fun r0 => ?_
  exact wE)
theorem n22_1_eq (Q : Ex × St → Prop) (s : St) : wC Try.prog cx22 n22_1 Q s = wC Try.prog cx22 n22_2 (sqW (wC Try.prog cx22 n22_7) Q) s := yS _ _
theorem n22_0_eq (Q : Ex × St → Prop) (env : Env) (h : Heap) : wC Try.prog cx22 n22_0 Q ⟨env, h⟩ = (Evs (mNew tAction (env.get 0) h) fun r0 => wC Try.prog cx22 n22_1 Q ⟨(Env.put (Env.put (Env.put env 1 r0.1) 2 .nilslice) 3 (nat 0)), r0.2⟩) := (ySR 0 (cOps (cL n22_0)) (cR n22_0)).trans (by
  refine w0 ?_
  refine wH 1 fun r0 => ?_
  refine wT 2 .nilslice ?_
  refine wT 3 (nat 0) ?_
  exact wE)
theorem fn22 : Try.prog.funcs[22]? = some Try.f22 := by kernel_rfl
theorem q22 {a0 : AV} {h : Heap} {K : AV × Heap → Prop} (H : ∀ env : Env, env.get 0 = a0 → wC Try.prog cx22 n22_0 (retW (fun s => (bnd (some (s.env.get 2)) fun v => bnd (bnd (some (s.env.get 3)) fun v => bnd (some []) fun vs => some (v :: vs)) fun vs => some (v :: vs))) K) ⟨env, h⟩) : SpecQ Try.prog 22 [a0] h K :=
  bodyW_sound (C := cx22) TT_ok mixed_ok fn22 (by kernel_rfl) (show _ = some n22_0 by kernel_rfl) (by kernel_rfl) (by kernel_rfl) (of_decide_eq_true (by kernel_rfl)) ((show wC Try.prog cx22 n22_0 (retW (fun s => resAll cx22 s Try.f22.results.toList) K) ⟨env0 cx22 [a0], h⟩ = wC Try.prog cx22 n22_0 (retW (fun s => (bnd (some (s.env.get 2)) fun v => bnd (bnd (some (s.env.get 3)) fun v => bnd (some []) fun vs => some (v :: vs)) fun vs => some (v :: vs))) K) ⟨[(0, a0), (1, .junk), (2, .junk), (3, .junk), (4, .junk), (7, .junk)], h⟩ by kernel_rfl).mpr (H [(0, a0), (1, .junk), (2, .junk), (3, .junk), (4, .junk), (7, .junk)] rfl))
def sn22 := And.intro n22_5_eq (And.intro n22_4_eq (And.intro n22_6_eq (And.intro n22_3_eq (And.intro n22_2_eq (And.intro n22_10_eq (And.intro n22_9_eq (And.intro n22_8_eq (And.intro n22_7_eq (And.intro n22_1_eq (n22_0_eq))))))))))
-- draws: 
end Go.Vab
