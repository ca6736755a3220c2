/-
  What a reading of the arguments tells: abstract values, and blocks that are only read.
-/
import Derived.Test.YtfolmjdaemoojaaV1
import Derived.ProofKit
import Derived.OpenShut
set_option linter.all false
set_option linter.unusedSectionVars false
namespace Go.Vab
open Go

/-- What a value of a type may be that was read. -/
def Rd (P : Program) (tt : Nat → Option TI) (h : Heap) : Nat → TypeId → AV → Prop
  | 0, _, _ => False
  | n + 1, t, v => match P.underlying t with
    | some .bool => ∃ b, v = .bool b
    | some (.int k) => ∃ x, v = .int k x ∧ (Lit.int k x).wf = true
    | some .string => ∃ s, v = .str s ∧ s.size ≤ maxLen
    | some (.slice e) => v = .nilslice ∨ ∃ i el row m len cap, v = .slice i 0 [] el.ty 0 len (some cap) ∧ tt e = some el ∧ h[i]? = some ⟨row, 0, m⟩ ∧ hasTy row (.arr cap el.ty) = true ∧ len ≤ cap ∧ cap ≤ maxLen ∧
        ∀ j, j < cap → ∃ x, row.get [j] = some x ∧ Rd P tt h n e x
    | some (.struct fs) => ∃ vs, v = .node vs ∧ ∀ (f : Nat) x, fs[f]? = some x → ∃ y, vs[f]? = some y ∧ Rd P tt h n x.type y
    | some (.array m e) => ∀ j, j < m → ∃ x, v.get [j] = some x ∧ Rd P tt h n e x
    | _ => False

theorem Rd.app {P : Program} {tt : Nat → Option TI} {h : Heap} (l : Heap) : ∀ (n : Nat) (t : TypeId) (v : AV), Rd P tt h n t v → Rd P tt (h ++ l) n t v
  | 0, _, _, hr => hr
  | n + 1, t, v, hr => by
    unfold Rd at hr ⊢
    split at hr
    · exact hr
    · exact hr
    · exact hr
    · rcases hr with hr | ⟨i, el, row, m, len, cap, h1, h2, h3, h4, h5, h6, h7⟩
      · exact .inl hr
      · exact .inr ⟨i, el, row, m, len, cap, h1, h2, by rw [List.getElem?_append_left (List.getElem?_eq_some_iff.1 h3).1]; exact h3, h4, h5, h6, fun j hj => let ⟨x, hx, hy⟩ := h7 j hj; ⟨x, hx, Rd.app l n _ _ hy⟩⟩
    · obtain ⟨vs, h1, h2⟩ := hr
      exact ⟨vs, h1, fun f x hx => let ⟨y, hy, hz⟩ := h2 f x hx; ⟨y, hy, Rd.app l n _ _ hz⟩⟩
    · intro j hj
      obtain ⟨x, hx, hy⟩ := hr j hj
      exact ⟨x, hx, Rd.app l n _ _ hy⟩
    · exact hr

/-- Nothing of it may be written. -/
def NoOwn (E : Gh) (h : Heap) : Prop := ∀ i b, h[i]? = some b → ¬ Own E i b

def Gh.pushAt (E : Gh) (blk base : Nat) (many : Bool) (ty : Ty) : Gh where
  n := E.n + 1
  blk i := if i = E.n then blk else E.blk i
  base i := if i = E.n then base else E.base i
  room i := if i = E.n then 0 else E.room i
  ver i := if i = E.n then 0 else E.ver i
  many i := if i = E.n then many else E.many i
  ty i := if i = E.n then ty else E.ty i

theorem Gh.pushAt_ext (E : Gh) (blk base : Nat) (many : Bool) (ty : Ty) : Ext E (E.pushAt blk base many ty) := by
  refine ⟨Nat.le_succ _, fun i hi => ?_, fun i hi => ?_, fun i hi => ?_, fun i hi _ => ?_⟩ <;> simp [Gh.pushAt, Nat.ne_of_lt hi]

theorem rel_push {E : Gh} {h : Heap} {w : World} (R : RelHeap E h w) (N : NoOwn E h) (b : Blk) (blk base : Nat) (many : Bool) (ty : Ty) (hver : b.ver = 0)
    (hfits : if many = true then ∃ n t, ty = .arr 0 t ∧ hasTy b.v (.arr n t) = true else hasTy b.v ty = true) {l : List Value} (hl : VRl E b.v l)
    (hcell : (b.mode = .ro ∧ ∃ arr te fr pre post, w.heap[blk]? = some (.cells arr te fr) ∧ arr.toList = pre ++ l ++ post ∧ pre.length = base) ∨ (b.mode = .open ∧ many = true ∧ l = [] ∧ b.v.rowLen = some 0)) :
    RelHeap (E.pushAt blk base many ty) (h ++ [b]) w ∧ NoOwn (E.pushAt blk base many ty) (h ++ [b]) := by
  have hX := Gh.pushAt_ext E blk base many ty
  have hget : ∀ (j : Nat) (c : Blk), (h ++ [b])[j]? = some c → (j = E.n ∧ c = b) ∨ (j < E.n ∧ h[j]? = some c) := by
    intro j c hj
    rw [R.n]
    by_cases e : j < h.length
    · rw [List.getElem?_append_left e] at hj; exact .inr ⟨e, hj⟩
    · rw [List.getElem?_append_right (by omega)] at hj
      have : j - h.length = 0 := by
        have := (List.getElem?_eq_some_iff.1 hj).1
        simp at this; omega
      rw [this] at hj; simp at hj
      exact .inl ⟨by omega, hj.symm⟩
  have hplaced : ∀ (j : Nat) (c : Blk), j < E.n → (Placed (E.pushAt blk base many ty) j c ↔ Placed E j c) := fun j c hj => by
    unfold Placed; simp [Gh.pushAt, Nat.ne_of_lt hj]
  have hno : NoOwn (E.pushAt blk base many ty) (h ++ [b]) := by
    intro j c hj hO
    rcases hget j c hj with ⟨rfl, rfl⟩ | ⟨hjn, hj⟩
    · rcases hcell with ⟨hm, _⟩ | ⟨hm, _⟩
      · exact hO.1 hm
      · exact hO.2 ⟨hm, by simp [Gh.pushAt]⟩
    · exact N j c hj ⟨hO.1, (hplaced j c hjn).1 hO.2⟩
  refine ⟨⟨by simp [Gh.pushAt, R.n], fun j c hj => ?_, fun j k c d hj hk hP hO e => absurd hO (hno k d hk)⟩, hno⟩
  rcases hget j c hj with ⟨rfl, rfl⟩ | ⟨hjn, hj⟩
  · refine ⟨by simp [Gh.pushAt, hver], ?_, ⟨l, VRl.mono hX _ _ hl, fun hP => ?_, fun hP => ?_⟩, fun hm => ?_⟩
    · unfold Fits; simpa [Gh.pushAt] using hfits
    · rcases hcell with ⟨hm, arr, te, fr, pre, post, e, e1, e2⟩ | ⟨hm, _⟩
      · exact ⟨arr, te, fr, pre, post, by simpa [Gh.pushAt] using e, e1, by simpa [Gh.pushAt] using e2, fun hn => absurd hm hn⟩
      · exact absurd ⟨hm, by simp [Gh.pushAt]⟩ hP
    · rcases hcell with ⟨hm, _⟩ | ⟨_, _, hl0, _⟩
      · exact absurd (fun hh => by rw [hm] at hh; cases hh.1) hP
      · exact hl0
    · rcases hcell with ⟨hm', _⟩ | ⟨_, hM, _, hr⟩
      · rw [hm'] at hm; cases hm
      · exact ⟨by simpa [Gh.pushAt] using hM, by rw [hr, hver]⟩
  · have B := R.at_ j c hj
    obtain ⟨l', hl1, hl2, hl3⟩ := B.body
    have hne := Nat.ne_of_lt hjn
    refine ⟨by simp [Gh.pushAt, hne, B.ver], ?_, ⟨l', VRl.mono hX _ _ hl1, fun hP => ?_, fun hP => hl3 (fun q => hP ((hplaced j c hjn).2 q))⟩, fun hm => ?_⟩
    · have := B.fits; unfold Fits at this ⊢; simpa [Gh.pushAt, hne] using this
    · have := hl2 ((hplaced j c hjn).1 hP)
      simpa [Gh.pushAt, hne] using this
    · have := B.grow hm; simpa [Gh.pushAt, hne] using this

/-- The row of elements. -/
def mkRow : Ty → List AV → AV
  | .int k, vs => .ints k (vs.map fun v => match v with | .int _ n => n | _ => 0)
  | _, vs => .node vs

theorem mkRow_spec {E : Gh} {u : Ty} : ∀ {vs : List AV} {cs : List Value}, (∀ v ∈ vs, hasTy v u = true) → VRs E vs cs →
    VRl E (mkRow u vs) cs ∧ hasTy (mkRow u vs) (.arr vs.length u) = true ∧ (∀ j, (mkRow u vs).get [j] = vs[j]?) ∧ (mkRow u vs).rowLen = some vs.length := by
  intro vs cs ht hr
  cases u with
  | int k =>
    have hk : ∀ v ∈ vs, ∃ n, v = .int k n := by
      intro v hv
      have := ht v hv
      cases v <;> simp [hasTy] at this
      exact ⟨_, by rw [this]⟩
    refine ⟨?_, by simp [mkRow, hasTy], fun j => ?_, by simp [mkRow, AV.rowLen]⟩
    · simp only [mkRow, VRl]
      clear ht
      induction vs generalizing cs with
      | nil => simp only [VRs] at hr; subst hr; rfl
      | cons v vs ih =>
        simp only [VRs] at hr
        obtain ⟨l1, l2, rfl, h1, h2⟩ := hr
        obtain ⟨n, rfl⟩ := hk v (List.mem_cons_self ..)
        simp only [VRl] at h1
        subst h1
        have := ih h2 (fun v hv => hk v (List.mem_cons_of_mem _ hv))
        simp [this]
    · simp only [mkRow, AV.get, List.getElem?_map]
      cases hj : vs[j]? with
      | none => rfl
      | some v =>
        obtain ⟨n, rfl⟩ := hk v (List.mem_of_getElem? hj)
        rfl
  | cell => exact ⟨by simpa only [mkRow, VRl] using hr, by simp [mkRow, hasTy, (hasTyAll_iff vs _).2 ht], fun j => by simp only [mkRow, get_node]; cases vs[j]? <;> simp, by simp [mkRow, AV.rowLen]⟩
  | arr m t => exact ⟨by simpa only [mkRow, VRl] using hr, by simp [mkRow, hasTy, (hasTyAll_iff vs _).2 ht], fun j => by simp only [mkRow, get_node]; cases vs[j]? <;> simp, by simp [mkRow, AV.rowLen]⟩
  | struct ts => exact ⟨by simpa only [mkRow, VRl] using hr, by simp [mkRow, hasTy, (hasTyAll_iff vs _).2 ht], fun j => by simp only [mkRow, get_node]; cases vs[j]? <;> simp, by simp [mkRow, AV.rowLen]⟩

/-! the cells of rows and structs in parts -/
theorem chop (s : Nat) : ∀ (n : Nat) (cs : List Value), cs.length = n * s → (List.range n).flatMap (fun i => (cs.drop (i * s)).take s) = cs
  | 0, cs, h => by simp at h; simp [h]
  | n + 1, cs, h => by
    have h1 : (cs.drop s).length = n * s := by rw [List.length_drop, h, Nat.succ_mul]; omega
    have := chop s n (cs.drop s) h1
    rw [List.range_succ_eq_map, List.flatMap_cons, List.flatMap_map]
    have e : (List.range n).flatMap (fun a => (cs.drop ((a + 1) * s)).take s) = (List.range n).flatMap (fun i => ((cs.drop s).drop (i * s)).take s) := by
      congr 1; funext a; rw [List.drop_drop, Nat.succ_mul, Nat.add_comm]
    simp only [Nat.zero_mul, List.drop_zero]
    rw [e, this, List.take_append_drop]

theorem chops : ∀ (ts : List Ty) (cs : List Value), cs.length = Ty.sizes ts → (List.range ts.length).flatMap (fun f => (cs.drop (Ty.sizes (ts.take f))).take (match ts[f]? with | some t => t.size | none => 0)) = cs
  | [], cs, h => by simp [Ty.sizes] at h; simp [h]
  | t :: ts, cs, h => by
    simp only [Ty.sizes] at h
    have h1 : (cs.drop t.size).length = Ty.sizes ts := by rw [List.length_drop, h]; omega
    have := chops ts (cs.drop t.size) h1
    rw [List.length_cons, List.range_succ_eq_map, List.flatMap_cons, List.flatMap_map]
    have e : (List.range ts.length).flatMap (fun a => (cs.drop (Ty.sizes ((t :: ts).take (a + 1)))).take (match (t :: ts)[a + 1]? with | some t => t.size | none => 0)) =
        (List.range ts.length).flatMap (fun f => ((cs.drop t.size).drop (Ty.sizes (ts.take f))).take (match ts[f]? with | some t => t.size | none => 0)) := by
      congr 1; funext a
      rw [List.drop_drop, List.take_succ_cons, List.getElem?_cons_succ]
      simp only [Ty.sizes]
    simp only [List.take_zero, Ty.sizes, List.drop_zero, List.getElem?_cons_zero]
    rw [e, this, List.take_append_drop]

/-- The types that are read so: numbers, bools, strings; structs, arrays and slices of such. -/
def plainTypeB (P : Program) (tt : Nat → Option TI) (ok : List TypeId) (t : TypeId) : Bool := match tt t, P.underlying t with
  | some i, some .bool => Ty.beq i.ty .cell
  | some i, some .string => Ty.beq i.ty .cell
  | some i, some (.int k) => Ty.beq i.ty (.int k)
  | some i, some (.slice e) => Ty.beq i.ty .cell && (match tt e with | some j => decide (j.ty.size ≠ 0) && decide (P.cellsOf e = j.ty.size) | none => false) && ok.contains e
  | some i, some (.struct fs) => (match i.ty with | .struct _ => true | _ => false) && (fs.toList.all fun f => ok.contains f.type && (match tt f.type with | some j => decide (P.cellsOf f.type = j.ty.size) | none => false))
  | some i, some (.array _ e) => (match i.ty with | .arr _ _ => true | _ => false) && ok.contains e && (match tt e with | some j => decide (P.cellsOf e = j.ty.size) | none => false)
  | _, _ => false

def plainB (P : Program) (tt : Nat → Option TI) (ok : List TypeId) : Bool := ok.all (plainTypeB P tt ok) && ok.all fun t => match tt t with | some i => decide (P.cellsOf t = i.ty.size) | none => false

section
variable {H : Type} {enc : TypeId × Value → H} {P : Program} {tt : Nat → Option TI} {ok : List TypeId} {w : World}

/-- What was read of a cell row is an abstract value, over some more memory that is only read. -/
def Read (P : Program) (tt : Nat → Option TI) (w : World) (n : Nat) (t : TypeId) (cs : List Value) : Prop :=
  ∀ E h, RelHeap E h w → NoOwn E h → ∀ i, tt t = some i → ∃ E' l v, RelHeap E' (h ++ l) w ∧ NoOwn E' (h ++ l) ∧ Ext E E' ∧ VRl E' v cs ∧ hasTy v i.ty = true ∧ Rd P tt (h ++ l) n t v

/-- Several of them, one behind the other. -/
theorem Read.list {n : Nat} : ∀ (items : List (TypeId × List Value)), (∀ x ∈ items, Read P tt w n x.1 x.2) → (∀ x ∈ items, ∃ i, tt x.1 = some i) →
    ∀ E h, RelHeap E h w → NoOwn E h → ∃ E' l vs, RelHeap E' (h ++ l) w ∧ NoOwn E' (h ++ l) ∧ Ext E E' ∧ VRs E' vs (items.flatMap (·.2)) ∧ vs.length = items.length ∧
      ∀ (j : Nat) x, items[j]? = some x → ∃ v i, vs[j]? = some v ∧ tt x.1 = some i ∧ hasTy v i.ty = true ∧ VRl E' v x.2 ∧ Rd P tt (h ++ l) n x.1 v
  | [], _, _, E, h, R, N => ⟨E, [], [], by simpa using R, by simpa using N, Ext.refl E, by simp [VRs], rfl, fun j x hx => by simp at hx⟩
  | x :: items, hr, ht, E, h, R, N => by
    obtain ⟨i, hi⟩ := ht x (List.mem_cons_self ..)
    obtain ⟨E1, l1, v, R1, N1, X1, V1, T1, D1⟩ := hr x (List.mem_cons_self ..) E h R N i hi
    obtain ⟨E2, l2, vs, R2, N2, X2, V2, L2, D2⟩ := Read.list items (fun y hy => hr y (List.mem_cons_of_mem _ hy)) (fun y hy => ht y (List.mem_cons_of_mem _ hy)) E1 (h ++ l1) R1 N1
    refine ⟨E2, l1 ++ l2, v :: vs, by rw [← List.append_assoc]; exact R2, by rw [← List.append_assoc]; exact N2, X1.trans X2, ?_, by simp [L2], fun j y hy => ?_⟩
    · rw [List.flatMap_cons]; exact VRs.cons (VRl.mono X2 _ _ V1) V2
    · rw [← List.append_assoc]
      cases j with
      | zero =>
        simp at hy; subst hy
        exact ⟨v, i, rfl, hi, T1, VRl.mono X2 _ _ V1, Rd.app l2 _ _ _ D1⟩
      | succ j =>
        simp only [List.getElem?_cons_succ] at hy ⊢
        exact D2 j y hy

theorem flatMap_of_get {α β : Type} {f : Nat → List β} {l : List α} {n : Nat} (hl : l.length = n) {g : α → List β} (h : ∀ (i : Nat) x, l[i]? = some x → g x = f i) : l.flatMap g = (List.range n).flatMap f := by
  subst hl
  rw [List.flatMap_def, List.flatMap_def]
  congr 1
  apply List.ext_getElem?
  intro i
  rw [List.getElem?_map, List.getElem?_map]
  by_cases hi : i < l.length
  · rw [List.getElem?_range hi, List.getElem?_eq_getElem hi]
    simp only [Option.map_some]
    rw [h i _ (List.getElem?_eq_getElem hi)]
  · rw [List.getElem?_eq_none (by omega), List.getElem?_eq_none (by simpa using hi)]; rfl

theorem hasTys_of : ∀ {vs : List AV} {ts : List Ty}, vs.length = ts.length → (∀ (f : Nat) v t, vs[f]? = some v → ts[f]? = some t → hasTy v t = true) → hasTys vs ts = true
  | [], [], _, _ => rfl
  | v :: vs, t :: ts, hl, h => by
    simp only [hasTys, Bool.and_eq_true]
    exact ⟨h 0 v t rfl rfl, hasTys_of (by simpa using hl) fun f v t hv ht => h (f + 1) v t (by simpa using hv) (by simpa using ht)⟩
  | [], _ :: _, hl, _ => by simp at hl
  | _ :: _, [], hl, _ => by simp at hl

theorem cells_block {b : Addr} {s : Nat} {cs : List Value} (hs : 0 < s) (h : w.cells? 0 b s = some cs) :
    ∃ arr te fr, w.heap[b.block]? = some (.cells arr te fr) ∧ b.spot = none ∧ b.off + s ≤ arr.size ∧ cs = (arr.toList.drop b.off).take s := by
  obtain ⟨_, hl, hg⟩ := World.cells?_some h
  have h0 := hg 0 hs
  have e0 : b.add 0 = b := by simp [Addr.add]
  rw [e0, List.getElem?_eq_getElem (by omega)] at h0
  unfold World.cell? at h0
  split at h0
  · rename_i arr te fr hb
    split at h0
    · cases h0
    · rename_i hsp
      have hspot : b.spot = none := by simpa using hsp
      have hcell : ∀ i, i < s → arr[b.off + i]? = cs[i]? := by
        intro i hi
        have := hg i hi
        by_cases hz : i = 0
        · subst hz
          rw [e0] at this
          unfold World.cell? at this
          rw [hb] at this
          simpa [hspot] using this
        · have e : (b.add i) = ⟨b.block, b.off + i, none⟩ := by simp [Addr.add, hz]
          rw [e] at this
          unfold World.cell? at this
          rw [hb] at this
          simpa using this
      have hlast := hcell (s - 1) (by omega)
      rw [List.getElem?_eq_getElem (by omega)] at hlast
      have hlt := (Array.getElem?_eq_some_iff.1 hlast).1
      refine ⟨arr, te, fr, hb, hspot, by omega, ?_⟩
      apply List.ext_getElem?
      intro i
      by_cases hi : i < s
      · rw [← hcell i hi, List.getElem?_take, if_pos hi, List.getElem?_drop]; simp
      · rw [List.getElem?_eq_none (by omega), List.getElem?_eq_none (by simp; omega)]
  · cases h0

theorem rows_block {a : Addr} {s c : Nat} {f : Nat → List Value} (hs : 0 < s) (hc : 0 < c) (h : ∀ i, i < c → w.cells? 0 (a.add (i * s)) s = some (f i)) :
    ∃ arr te fr pre post, w.heap[a.block]? = some (.cells arr te fr) ∧ a.spot = none ∧ arr.toList = pre ++ (List.range c).flatMap f ++ post ∧ pre.length = a.off := by
  have h0 := h 0 hc
  have e0 : a.add (0 * s) = a := by simp [Addr.add]
  rw [e0] at h0
  obtain ⟨arr, te, fr, hb, hsp, hle, _⟩ := cells_block hs h0
  have hf : ∀ i, i < c → a.off + i * s + s ≤ arr.size ∧ f i = (arr.toList.drop (a.off + i * s)).take s := by
    intro i hi
    obtain ⟨arr', te', fr', hb', _, hle', e'⟩ := cells_block hs (h i hi)
    have e1 : (a.add (i * s)).block = a.block ∧ (a.add (i * s)).off = a.off + i * s := by
      unfold Addr.add; split
      · rename_i hz; simp [hz]
      · simp
    rw [e1.1, hb] at hb'
    simp only [Option.some.injEq, Obj.cells.injEq] at hb'
    rw [e1.2, ← hb'.1] at hle' e'
    exact ⟨hle', e'⟩
  have hend := (hf (c - 1) (by omega)).1
  have hcs : (c - 1) * s + s = c * s := by rw [← Nat.succ_mul]; congr 1; omega
  refine ⟨arr, te, fr, arr.toList.take a.off, arr.toList.drop (a.off + c * s), hb, hsp, ?_, by simp; omega⟩
  have e2 := chop s c ((arr.toList.drop a.off).take (c * s)) (by simp; omega)
  have e3 : (List.range c).flatMap f = (List.range c).flatMap (fun i => (((arr.toList.drop a.off).take (c * s)).drop (i * s)).take s) := by
    rw [List.flatMap_def, List.flatMap_def]
    congr 1
    refine List.map_congr_left fun i hi => ?_
    have hi := List.mem_range.1 hi
    have hm : (i + 1) * s ≤ c * s := Nat.mul_le_mul_right _ hi
    rw [Nat.succ_mul] at hm
    rw [(hf i hi).2, List.drop_take, List.take_take, List.drop_drop, Nat.min_eq_left (by omega)]
  rw [e3, e2, List.append_assoc, ← List.drop_drop, List.take_append_drop, List.take_append_drop]

theorem read_ok (T : TTok P tt) (hok : plainB P tt ok = true) : ∀ (n : Nat) (t : TypeId) (cs : List Value) (x : DataW H × List MemPlace), ok.contains t = true →
    DataW.trod enc P w 0 (fun _ => true) true n t cs = some x → Read P tt w n t cs
  | 0, t, cs, x, _, h => by simp [DataW.trod] at h
  | n + 1, t, cs, x, hm, h => by
    intro E hp R N i hi
    have hok2 := hok
    simp only [plainB, Bool.and_eq_true, List.all_eq_true] at hok
    have hb := hok.1 t (by simpa using hm)
    unfold plainTypeB at hb
    rw [hi] at hb
    have keep : ∀ v : AV, VRl E v cs → hasTy v i.ty = true → Rd P tt (hp ++ []) (n + 1) t v → ∃ E' l v, RelHeap E' (hp ++ l) w ∧ NoOwn E' (hp ++ l) ∧ Ext E E' ∧ VRl E' v cs ∧ hasTy v i.ty = true ∧ Rd P tt (hp ++ l) (n + 1) t v :=
      fun v h1 h2 h3 => ⟨E, [], v, by simpa using R, by simpa using N, Ext.refl E, h1, h2, h3⟩
    cases hu : P.underlying t with
    | none => rw [hu] at hb; simp at hb
    | some d =>
      rw [hu] at hb
      cases d <;> try (simp only [Bool.false_eq_true] at hb; done)
      case bool =>
        obtain ⟨b, rfl, _⟩ := DataW.trod_bool hu h
        have hty := Ty.beq_eq _ _ hb
        exact keep (.bool b) (by simp only [VRl]) (by rw [hty]; rfl) (by simp only [Rd, hu]; exact ⟨_, rfl⟩)
      case string =>
        obtain ⟨b, rfl, _, hm⟩ := DataW.trod_string hu h
        have hty := Ty.beq_eq _ _ hb
        exact keep (.str b) (by simp only [VRl]) (by rw [hty]; rfl) (by simp only [Rd, hu]; exact ⟨_, rfl, hm⟩)
      case int k =>
        obtain ⟨b, rfl, _, hm⟩ := DataW.trod_int hu h
        have hty := Ty.beq_eq _ _ hb
        exact keep (.int k b) (by simp only [VRl]) (by rw [hty]; simp [hasTy]) (by simp only [Rd, hu]; exact ⟨_, rfl, hm⟩)
      case slice e =>
        simp only [Bool.and_eq_true] at hb
        obtain ⟨⟨hty, he⟩, hoe⟩ := hb
        have hty := Ty.beq_eq _ _ hty
        cases hel : tt e with
        | none => rw [hel] at he; cases he
        | some el =>
          rw [hel] at he
          simp only [Bool.and_eq_true, decide_eq_true_eq] at he
          obtain ⟨hsz, hcz⟩ := he
          rcases DataW.trod_slice hu h with ⟨rfl, _⟩ | ⟨a, len, cap, elems, rest, n', hn, rfl, _, _, hl, hmx, hlen, hel1, hel2, _⟩
          · exact keep .nilslice (by simp only [VRl]) (by rw [hty]; rfl) (by simp only [Rd, hu]; exact .inl trivial)
          · have hn' : n = n' := by omega
            subst hn'
            have hall : ∀ k, k < cap → ∃ cs' y, w.cells? 0 (a.add (k * P.cellsOf e)) (P.cellsOf e) = some cs' ∧ DataW.trod enc P w 0 (fun _ => true) true n e cs' = some y := by
              intro k hk
              have key : ∃ y, (w.cells? 0 (a.add (k * P.cellsOf e)) (P.cellsOf e)).bind (DataW.trod enc P w 0 (fun _ => true) true n e) = some y := by
                by_cases hkl : k < len
                · exact ⟨elems[k]'(by omega), by rw [hel1 k hkl, List.getElem?_eq_getElem (by omega)]⟩
                · obtain ⟨h1, h2⟩ := hel2 rfl
                  have := h2 (k - len) (by omega)
                  rw [show len + (k - len) = k by omega] at this
                  exact ⟨rest[k - len]'(by omega), by rw [this, List.getElem?_eq_getElem (by omega)]⟩
              obtain ⟨y, hy⟩ := key
              obtain ⟨cs', h1, h2⟩ := Option.bind_eq_some_iff.1 hy
              exact ⟨cs', y, h1, h2⟩
            rw [hcz] at hall
            let f : Nat → List Value := fun k => (w.cells? 0 (a.add (k * el.ty.size)) el.ty.size).getD []
            have hf : ∀ k, k < cap → w.cells? 0 (a.add (k * el.ty.size)) el.ty.size = some (f k) ∧ ∃ y, DataW.trod enc P w 0 (fun _ => true) true n e (f k) = some y := by
              intro k hk
              obtain ⟨cs', y, h1, h2⟩ := hall k hk
              have : f k = cs' := by simp only [f, h1, Option.getD_some]
              rw [this]
              exact ⟨h1, y, h2⟩
            obtain ⟨E1, l1, vs, R1, N1, X1, V1, L1, D1⟩ := Read.list (P := P) (tt := tt) (w := w) (n := n) ((List.range cap).map fun k => (e, f k))
              (fun y hy => by
                obtain ⟨k, hk, rfl⟩ := List.mem_map.1 hy
                obtain ⟨_, z, hz⟩ := hf k (List.mem_range.1 hk)
                exact read_ok T hok2 n e (f k) z hoe hz)
              (fun y hy => by obtain ⟨k, _, rfl⟩ := List.mem_map.1 hy; exact ⟨el, hel⟩) E hp R N
            rw [List.length_map, List.length_range] at L1
            have hcells : ((List.range cap).map fun k => (e, f k)).flatMap (·.2) = (List.range cap).flatMap f := by rw [List.flatMap_map]
            rw [hcells] at V1
            have helem : ∀ j, j < cap → ∃ v, vs[j]? = some v ∧ hasTy v el.ty = true ∧ Rd P tt (hp ++ l1) n e v := by
              intro j hj
              obtain ⟨v, i', hv, hi', ht, _, hr⟩ := D1 j (e, f j) (by simp [hj])
              rw [hel] at hi'
              simp only [Option.some.injEq] at hi'
              subst hi'
              exact ⟨v, hv, ht, hr⟩
            obtain ⟨W1, W2, W3, W4⟩ := mkRow_spec (u := el.ty) (fun v hv => by
              obtain ⟨j, hj⟩ := List.getElem?_of_mem hv
              obtain ⟨v', hv', ht, _⟩ := helem j (by have := (List.getElem?_eq_some_iff.1 hj).1; omega)
              rw [hj] at hv'
              simp only [Option.some.injEq] at hv'
              rw [hv']; exact ht) V1
            rw [L1] at W2
            have hres : ∀ (m : Mode) (many : Bool) (ty : Ty), RelHeap (E1.pushAt a.block a.off many ty) ((hp ++ l1) ++ [⟨mkRow el.ty vs, 0, m⟩]) w → NoOwn (E1.pushAt a.block a.off many ty) ((hp ++ l1) ++ [⟨mkRow el.ty vs, 0, m⟩]) →
                (∃ c, ty = .arr c el.ty) → (cap ≠ 0 → a.spot = none) →
                ∃ E' l v, RelHeap E' (hp ++ l) w ∧ NoOwn E' (hp ++ l) ∧ Ext E E' ∧ VRl E' v [.slice (some a) len cap] ∧ hasTy v i.ty = true ∧ Rd P tt (hp ++ l) (n + 1) t v := by
              intro m many ty R2 N2 ⟨c', hty'⟩ hsp
              refine ⟨E1.pushAt a.block a.off many ty, l1 ++ [⟨mkRow el.ty vs, 0, m⟩], .slice (hp ++ l1).length 0 [] el.ty 0 len (some cap), by rw [← List.append_assoc]; exact R2, by rw [← List.append_assoc]; exact N2,
                X1.trans (Gh.pushAt_ext ..), ?_, by rw [hty]; rfl, ?_⟩
              · simp only [VRl]
                have hE : (hp ++ l1).length = E1.n := R1.n.symm
                rw [hE]
                refine ⟨a, cap, rfl, by simp [Gh.pushAt], by simp, hl, by simp, by simp, fun _ => ⟨0, c', by simp [Gh.pushAt, hty', Ty.sub], fun hc => ?_, by simp⟩⟩
                have hs := hsp hc
                cases a
                simp only at hs
                simp [Gh.pushAt, hs]
              · unfold Rd
                rw [hu]
                right
                refine ⟨_, el, mkRow el.ty vs, m, len, cap, rfl, hel, ?_, W2, hl, hmx, fun j hj => ?_⟩
                · rw [← List.append_assoc, List.getElem?_append_right (Nat.le_refl _)]; simp
                · obtain ⟨v, hv, _, hr⟩ := helem j hj
                  exact ⟨v, by rw [W3, hv], by rw [← List.append_assoc]; exact Rd.app _ _ _ _ hr⟩
            by_cases hc0 : cap = 0
            · subst hc0
              have hz : vs = [] := List.eq_nil_of_length_eq_zero L1
              obtain ⟨R2, N2⟩ := rel_push R1 N1 ⟨mkRow el.ty vs, 0, .open⟩ a.block a.off true (.arr 0 el.ty) rfl (by simp only [if_true]; exact ⟨0, el.ty, rfl, W2⟩) W1 (.inr ⟨rfl, rfl, rfl, by rw [W4, L1]⟩)
              exact hres .open true _ R2 N2 ⟨0, rfl⟩ (fun h => absurd rfl h)
            · obtain ⟨arr, te, fr, pre, post, g1, g2, g3, g4⟩ := rows_block (w := w) (a := a) (Nat.pos_of_ne_zero hsz) (Nat.pos_of_ne_zero hc0) (fun k hk => (hf k hk).1)
              obtain ⟨R2, N2⟩ := rel_push R1 N1 ⟨mkRow el.ty vs, 0, .ro⟩ a.block a.off false (.arr cap el.ty) rfl (by simpa using W2) W1 (.inl ⟨rfl, arr, te, fr, pre, post, g1, g3, g4⟩)
              exact hres .ro false _ R2 N2 ⟨cap, rfl⟩ (fun _ => g2)
      case struct fs =>
        simp only [Bool.and_eq_true, List.all_eq_true] at hb
        obtain ⟨hty, hfs⟩ := hb
        cases hit : i.ty with
        | struct ts =>
          obtain ⟨fs', hu', hsz, _, hfld⟩ := T.struct t i ts hi hit
          rw [hu] at hu'
          simp only [Option.some.injEq, TypeDesc.struct.injEq] at hu'
          subst hu'
          obtain ⟨xs, n', hn, _, hlen, hxl, hx⟩ := DataW.trod_struct hu h
          have hn' : n = n' := by omega
          subst hn'
          have hcell := hok.2 t (by simpa using hm)
          rw [hi] at hcell
          simp only [decide_eq_true_eq] at hcell
          rw [hcell, hit] at hlen
          simp only [Ty.size] at hlen
          have hch := chops ts cs hlen
          have hf : ∀ (f : Nat) (y : Field), fs[f]? = some y → ∃ j, tt y.type = some j ∧ ts[f]? = some j.ty ∧ (cs.drop y.offset).take (P.cellsOf y.type) = (cs.drop (Ty.sizes (ts.take f))).take (match ts[f]? with | some t => t.size | none => 0) ∧ Read P tt w n y.type ((cs.drop y.offset).take (P.cellsOf y.type)) := by
            intro f y hy
            obtain ⟨_, ho, j, hj, htf, _⟩ := hfld f y hy
            have hmem : y ∈ fs.toList := List.mem_of_getElem? (by simpa using hy)
            have h3 := hfs y hmem
            rw [hj] at h3
            simp only [decide_eq_true_eq] at h3
            refine ⟨j, hj, htf, ?_, ?_⟩
            · rw [ho, h3.2, htf]
            · have hlt : f < fs.size := (Array.getElem?_eq_some_iff.1 hy).1
              have h4 := hx f y hy
              rw [List.getElem?_eq_getElem (by omega)] at h4
              exact read_ok T hok2 n y.type _ _ h3.1 h4
          obtain ⟨E1, l1, vs, R1, N1, X1, V1, L1, D1⟩ := Read.list (P := P) (tt := tt) (w := w) (n := n) (fs.toList.map fun y => (y.type, (cs.drop y.offset).take (P.cellsOf y.type)))
            (fun z hz => by
              obtain ⟨y, hy, rfl⟩ := List.mem_map.1 hz
              obtain ⟨f, hfy⟩ := List.getElem?_of_mem hy
              obtain ⟨j, _, _, _, hr⟩ := hf f y (by simpa using hfy)
              exact hr)
            (fun z hz => by
              obtain ⟨y, hy, rfl⟩ := List.mem_map.1 hz
              obtain ⟨f, hfy⟩ := List.getElem?_of_mem hy
              obtain ⟨j, hj, _⟩ := hf f y (by simpa using hfy)
              exact ⟨j, hj⟩) E hp R N
          rw [List.length_map] at L1
          have L1 : vs.length = fs.size := by rw [L1]; simp
          have hcat : (fs.toList.map fun y => (y.type, (cs.drop y.offset).take (P.cellsOf y.type))).flatMap (·.2) = cs := by
            rw [List.flatMap_map]
            rw [flatMap_of_get (n := ts.length) (f := fun f => (cs.drop (Ty.sizes (ts.take f))).take (match ts[f]? with | some t => t.size | none => 0)) (by simpa using hsz) (fun f y hy => ?_)]
            · exact hch
            · obtain ⟨j, _, _, he, _⟩ := hf f y (by simpa using hy)
              exact he
          rw [hcat] at V1
          have hD : ∀ (f : Nat) (y : Field), fs[f]? = some y → ∃ v, ∃ j : TI, vs[f]? = some v ∧ ts[f]? = some j.ty ∧ hasTy v j.ty = true ∧ Rd P tt (hp ++ l1) n y.type v := by
            intro f y hy
            obtain ⟨v, j', hv, hj', ht, _, hr⟩ := D1 f (y.type, (cs.drop y.offset).take (P.cellsOf y.type)) (by rw [List.getElem?_map, Array.getElem?_toList, hy]; rfl)
            obtain ⟨j, hj, htf, _⟩ := hf f y hy
            rw [hj] at hj'
            simp only [Option.some.injEq] at hj'
            subst hj'
            exact ⟨v, j, hv, htf, ht, hr⟩
          refine ⟨E1, l1, .node vs, R1, N1, X1, by simpa only [VRl] using V1, ?_, ?_⟩
          · simp only [hasTy]
            refine hasTys_of (by omega) (fun f v t' hv ht' => ?_)
            have hlt : f < fs.size := by have := (List.getElem?_eq_some_iff.1 hv).1; omega
            obtain ⟨v', j, hv', htf, ht, _⟩ := hD f fs[f] (Array.getElem?_eq_getElem hlt)
            rw [hv] at hv'; rw [ht'] at htf
            simp only [Option.some.injEq] at hv' htf
            rw [hv', htf]; exact ht
          · unfold Rd
            rw [hu]
            exact ⟨vs, rfl, fun f y hy => by obtain ⟨v, j, hv, _, _, hr⟩ := hD f y hy; exact ⟨v, hv, hr⟩⟩
        | int k => rw [hit] at hty; cases hty
        | cell => rw [hit] at hty; cases hty
        | arr a b => rw [hit] at hty; cases hty
      case array m e =>
        simp only [Bool.and_eq_true] at hb
        obtain ⟨⟨hty, hoe⟩, hce⟩ := hb
        cases hit : i.ty with
        | arr m' u =>
          obtain ⟨e', el, hu', hel, hjt⟩ := T.arr t i m' u hi hit
          rw [hu] at hu'
          simp only [Option.some.injEq, TypeDesc.array.injEq] at hu'
          obtain ⟨rfl, rfl⟩ := hu'
          rw [hel] at hce
          simp only [decide_eq_true_eq] at hce
          obtain ⟨xs, n', hn, _, hlen, hxl, hx⟩ := DataW.trod_array hu h
          have hn' : n = n' := by omega
          subst hn'
          have hcell := hok.2 t (by simpa using hm)
          rw [hi] at hcell
          simp only [decide_eq_true_eq] at hcell
          rw [hcell, hit] at hlen
          simp only [Ty.size] at hlen
          rw [← hjt] at hlen
          have hch := chop el.ty.size m cs hlen
          rw [hce] at hx
          obtain ⟨E1, l1, vs, R1, N1, X1, V1, L1, D1⟩ := Read.list (P := P) (tt := tt) (w := w) (n := n) ((List.range m).map fun k => (e, (cs.drop (k * el.ty.size)).take el.ty.size))
            (fun y hy => by
              obtain ⟨k, hk, rfl⟩ := List.mem_map.1 hy
              have hk := List.mem_range.1 hk
              have h4 := hx k hk
              rw [List.getElem?_eq_getElem (by omega)] at h4
              exact read_ok T hok2 n e _ _ hoe h4)
            (fun y hy => by obtain ⟨k, _, rfl⟩ := List.mem_map.1 hy; exact ⟨el, hel⟩) E hp R N
          rw [List.length_map, List.length_range] at L1
          rw [List.flatMap_map, hch] at V1
          have helem : ∀ j, j < m → ∃ v, vs[j]? = some v ∧ hasTy v el.ty = true ∧ Rd P tt (hp ++ l1) n e v := by
            intro j hj
            obtain ⟨v, i', hv, hi', ht, _, hr⟩ := D1 j (e, (cs.drop (j * el.ty.size)).take el.ty.size) (by simp [hj])
            rw [hel] at hi'
            simp only [Option.some.injEq] at hi'
            subst hi'
            exact ⟨v, hv, ht, hr⟩
          obtain ⟨W1, W2, W3, W4⟩ := mkRow_spec (u := el.ty) (fun v hv => by
            obtain ⟨j, hj⟩ := List.getElem?_of_mem hv
            obtain ⟨v', hv', ht, _⟩ := helem j (by have := (List.getElem?_eq_some_iff.1 hj).1; omega)
            rw [hj] at hv'
            simp only [Option.some.injEq] at hv'
            rw [hv']; exact ht) V1
          rw [L1] at W2
          refine ⟨E1, l1, mkRow el.ty vs, R1, N1, X1, W1, by rw [← hjt]; exact W2, ?_⟩
          unfold Rd
          rw [hu]
          intro j hj
          obtain ⟨v, hv, _, hr⟩ := helem j hj
          exact ⟨v, by rw [W3, hv], hr⟩
        | int k => rw [hit] at hty; cases hty
        | cell => rw [hit] at hty; cases hty
        | struct b => rw [hit] at hty; cases hty

open Go.RowKit Go.WideShapes Go.ChangeShapes

theorem value_of_cells (T : TTok P tt) {t : TypeId} {i : TI} (hi : tt t = some i) {W : World} {base : Nat} {v : Value} (hv : Value.okWide P W .any base t v) : v = ofCells i.ty.isAgg v.cells.toList := by
  obtain ⟨d, hd, hA⟩ := T.und hi
  unfold Value.okWide at hv
  rw [hd] at hv
  have one : ∀ x : Value, (∀ cs, x ≠ .agg cs) → x = ofCells false x.cells.toList := by
    intro x hx
    cases x <;> first
      | rfl
      | exact absurd rfl (hx _)
  cases d <;> simp only at hv hA <;> rw [← hA]
  case struct fs => obtain ⟨cs, rfl, _⟩ := hv; simp [ofCells, Value.cells]
  case array m e => obtain ⟨cs, rfl, _⟩ := hv; simp [ofCells, Value.cells]
  all_goals
    refine one v fun cs e => ?_
    subst e
    unfold Cell.okWide at hv
    rw [hd] at hv
    simp only at hv
    try (unfold Cell.ok at hv; rw [hd] at hv; exact hv)

/-- All arguments avs abstract values. -/
theorem read_args (T : TTok P tt) (hok : plainB P tt ok = true) {W : World} {base : Nat} : ∀ (ts : List TypeId) (vs : List Value) (ds : List (DataW H)) (ps : List MemPlace), (∀ t ∈ ts, ok.contains t = true) → (∀ t ∈ ts, ∃ i, tt t = some i) →
    DataW.TrodAll enc P W 0 (fun _ => true) true ts vs ds ps → (∀ (j : Nat) t v, ts[j]? = some t → vs[j]? = some v → Value.okWide P W .any base t v) →
    ∀ E h, RelHeap E h W → NoOwn E h → ∃ E' l avs, RelHeap E' (h ++ l) W ∧ NoOwn E' (h ++ l) ∧ Ext E E' ∧ VRc E' avs vs ∧ avs.length = ts.length ∧ ∀ (j : Nat) t a, ts[j]? = some t → avs[j]? = some a → ∃ n i, tt t = some i ∧ hasTy a i.ty = true ∧ Rd P tt (h ++ l) n t a
  | [], [], [], ps, _, _, _, _, E, h, R, N => ⟨E, [], [], by simpa using R, by simpa using N, Ext.refl E, by simp [VRc], rfl, fun j t a hj => by simp at hj⟩
  | t :: ts, v :: vs, d :: ds, ps, ho, hi, hr, hv, E, h, R, N => by
    obtain ⟨p, q, ⟨n, h1⟩, h2, _⟩ := hr
    obtain ⟨i, hti⟩ := hi t (List.mem_cons_self ..)
    obtain ⟨E1, l1, a, R1, N1, X1, V1, T1, D1⟩ := read_ok T hok n t _ _ (ho t (List.mem_cons_self ..)) h1 E h R N i hti
    obtain ⟨E2, l2, avs, R2, N2, X2, V2, L2, D2⟩ := read_args T hok ts vs ds q (fun y hy => ho y (List.mem_cons_of_mem _ hy)) (fun y hy => hi y (List.mem_cons_of_mem _ hy)) h2 (fun j t v hj hjv => hv (j + 1) t v (by simpa using hj) (by simpa using hjv)) E1 (h ++ l1) R1 N1
    have hval := value_of_cells T hti (hv 0 t v rfl rfl)
    refine ⟨E2, l1 ++ l2, a :: avs, by rw [← List.append_assoc]; exact R2, by rw [← List.append_assoc]; exact N2, X1.trans X2, ?_, by simp [L2], fun j u b hj hb => ?_⟩
    · simp only [VRc]
      refine ⟨v, vs, rfl, ?_, V2⟩
      rw [hval]
      exact VRel.mono X2 _ _ (VRel.of_cells T1 V1)
    · rw [← List.append_assoc]
      cases j with
      | zero =>
        simp at hj hb; subst hj; subst hb
        exact ⟨n, i, hti, T1, Rd.app l2 _ _ _ D1⟩
      | succ j => exact D2 j u b (by simpa using hj) (by simpa using hb)
  | [], _ :: _, _, _, _, _, hr, _, _, _, _, _ => by simp [DataW.TrodAll] at hr
  | [], [], _ :: _, _, _, _, hr, _, _, _, _, _ => by simp [DataW.TrodAll] at hr
  | _ :: _, [], _, _, _, _, hr, _, _, _, _, _ => by simp [DataW.TrodAll] at hr
  | _ :: _, _ :: _, [], _, _, _, hr, _, _, _, _, _ => by simp [DataW.TrodAll] at hr

theorem below_of_moves {E E' : Gh} {h h' : Heap} {W W' : World} (N : NoOwn E h) (m : Moves E h W E' h' W') : Below W.heap.size W W' :=
  ⟨m.io.os, m.io.tape, m.io.output, m.size, fun k hk => m.keep k hk fun ⟨i, c, hi, ho, _⟩ => N i c hi ho⟩

def E00 : Gh := ⟨0, fun _ => 0, fun _ => 0, fun _ => 0, fun _ => 0, fun _ => false, fun _ => .cell⟩
theorem rel00 (W : World) : RelHeap E00 [] W := ⟨rfl, fun i b hb => by simp at hb, fun i j b c hb => by simp at hb⟩

theorem trodAll_stays (hl : laidOutB P = true) {W W' : World} (hb : Below W.heap.size W W') (sp' : Nat → Bool) : ∀ (ts : List TypeId) (vs : List Value) (ds : List (DataW H)) (ps : List MemPlace), (∀ t ∈ ts, P.readableRec t = true ∧ t < P.types.size) →
    (∀ x ∈ ps, x.block < W.heap.size) → (∀ x ∈ ps, sp' x.block = true) → DataW.TrodAll enc P W 0 (fun _ => true) true ts vs ds ps → DataW.TrodAll enc P W' 0 sp' true ts vs ds ps
  | [], [], [], ps, _, _, _, h => h
  | t :: ts, v :: vs, d :: ds, ps, ht, hlt, hsp, h => by
    obtain ⟨p, q, h1, h2, rfl⟩ := h
    obtain ⟨hr, hrow⟩ := ht t (List.mem_cons_self ..)
    exact ⟨p, q, WideElems.Trod_stays hl hr hrow h1 (fun x hx => hb.same (hlt x (List.mem_append_left _ hx))) (fun x hx => hsp x (List.mem_append_left _ hx)),
      trodAll_stays hl hb sp' ts vs ds q (fun y hy => ht y (List.mem_cons_of_mem _ hy)) (fun x hx => hlt x (List.mem_append_right _ hx)) (fun x hx => hsp x (List.mem_append_right _ hx)) h2, rfl⟩
  | [], _ :: _, _, _, _, _, _, hr => by simp [DataW.TrodAll] at hr
  | [], [], _ :: _, _, _, _, _, hr => by simp [DataW.TrodAll] at hr
  | _ :: _, [], _, _, _, _, _, hr => by simp [DataW.TrodAll] at hr
  | _ :: _, _ :: _, [], _, _, _, _, hr => by simp [DataW.TrodAll] at hr

/-- A law that answers true, whatever it is handed, and leaves everything avs it was. -/
theorem post_true {f : Func} {s : ChangeSpec} {apart : Bool} {W W' : World} {args : Array Value} {ds : List (DataW H)} {before : List MemPlace} {b : Nat} (hl : laidOutB P = true) (hvars : s.vars = [])
    (hread : ∀ t ∈ f.params.toList, P.readableRec t = true ∧ t < P.types.size) (hres : f.resultTypes = #[b]) (hbool : P.underlying b = some .bool)
    (hs : s.fn H ds = { results := [.lit (.bool true)], args := ds })
    (hW : DataW.Whole enc P f.params.toList s.vars apart W args.toList ds [] before) (hb : Below W.heap.size W W') :
    s.post enc P f apart true false false W args (.bool true) W' := by
  have hlt : ∀ p ∈ before, p.block < W.heap.size := fun p hp => hW.lt p hp
  have hold : ∀ p ∈ before, (fun b => decide (b < W.heap.size)) p.block = true := fun p hp => by simpa using hlt p hp
  have hW0 := hW
  obtain ⟨p, q, h1, h2, he, hz, hn⟩ := hW
  rw [hvars] at h2
  have hq : q = [] := by cases q with | nil => rfl | cons _ _ => simp [DataW.TrodVars] at h2
  subst hq
  simp only [List.append_nil] at he
  subst he
  have hds : ds ++ ([] : List (DataW H)) = ds := List.append_nil _
  have hr1 : (Value.bool true).resultList f.resultTypes.size = [.bool true] := by rw [hres]; rfl
  have hrt : ∀ (bb : Nat) (sp : Nat → Bool) (hd : Bool), DataW.TrodAll enc P W' bb sp hd f.resultTypes.toList ((Value.bool true).resultList f.resultTypes.size) (s.fn H (ds ++ [])).results [] := by
    intro bb sp hd
    rw [hr1, hres, hds, hs]
    exact ⟨[], [], ⟨1, by simp [DataW.trod, Value.cells, hbool]⟩, rfl, rfl⟩
  have hargs : ∀ sp : Nat → Bool, (∀ x ∈ before, sp x.block = true) → DataW.TrodAll enc P W' 0 sp true f.params.toList args.toList (s.fn H (ds ++ [])).args before := by
    intro sp hsp
    rw [hds, hs]
    exact trodAll_stays hl hb sp _ _ _ _ hread hlt hsp h1
  have hvs : ∀ sp : Nat → Bool, DataW.TrodVars enc P W' sp s.vars (s.fn H (ds ++ [])).vars [] := by
    intro sp
    rw [hvars, hds, hs]; rfl
  refine ⟨ds, [], before, [], before, [], hW0, hrt _ _ _, hargs _ hold, hvs _, World.keptBut_mono (fun p hp => ⟨hp, Or.inr (.inl hp)⟩) (hb.frame (· ∈ before)), fun h => by cases h⟩
end
end Go.Vab

/-
  From a law's contract to its row.
-/
namespace Go.Vab
open Go Go.RowKit Go.WideShapes Go.ChangeShapes

/-- What a law is handed, avs it was read. -/
def Handed (P : Program) (tt : Nat → Option TI) (h : Heap) (ts : List TypeId) (avs : List AV) : Prop :=
  avs.length = ts.length ∧ ∀ (j : Nat) t a, ts[j]? = some t → avs[j]? = some a → ∃ n i, tt t = some i ∧ hasTy a i.ty = true ∧ Rd P tt h n t a

theorem law_lifted {C : Checked} {tt : Nat → Option TI} {ok : List TypeId} {os : Os} {f : FuncId} {fn : Func} {s : ChangeSpec} {b : Nat} {H : Type} {enc : TypeId × Value → H} (T : TTok C.prog tt) (hok : plainB C.prog tt ok = true)
    (own : ownKnob C.prog.godebug = none) (hl : laidOutB C.prog = true) (started : os.Started) (noInit : C.prog.inits.idxOf? f = none) (hfn : C.prog.funcs[f]? = some fn) (hvars : s.vars = [])
    (hread : (fn.params.toList.all fun t => C.prog.readableRec t && decide (t < C.prog.types.size) && ok.contains t && (tt t).isSome) = true) (hres : fn.resultTypes = #[b]) (hbool : C.prog.underlying b = some .bool)
    (hs : ∀ ds : List (DataW H), ds.length = fn.params.size → s.fn H ds = { results := [.lit (.bool true)], args := ds })
    (witness : ∃ (w : World) (tape : Tape) (i : Input), w.os = os ∧ (w.forCall tape i).Shaped C.prog ∧ i.vars = [] ∧ Input.okWide C.prog (w.forCall tape i) .any w.heap.size f i ∧
      s.pre6 enc C.prog fn [] false (w.forCall tape i).memory i.args ∧ ({ modest := false } : Assume).holds C.prog (lone (Frame.enter C.prog f i.args .normal) [] (w.forCall tape i)))
    (spec : ∀ avs h, Handed C.prog tt h fn.params.toList avs → ∃ h', Spec C.prog f avs h (.bool true) h') :
    ReturnsInHanded {} C os f .any (s.pre6 enc C.prog fn [] false) (s.post enc C.prog fn false true false false) := by
  refine returnsInHanded_of_change own started noInit hfn witness ?_
  intro W base args ds gs before hval hW _ _
  simp only [List.all_eq_true, Bool.and_eq_true, decide_eq_true_eq] at hread
  have hW0 := hW
  obtain ⟨p, q, h1, h2, he, hz, hn⟩ := hW
  have hgs : gs = [] := by
    rw [hvars] at h2
    cases gs with
    | nil => rfl
    | cons _ _ => simp [DataW.TrodVars] at h2
  subst hgs
  obtain ⟨E, l, avs, R, N, X, V, L, D⟩ := read_args T hok fn.params.toList args.toList ds p (fun t ht => (hread t ht).1.2) (fun t ht => Option.isSome_iff_exists.1 (hread t ht).2) h1 (fun j t v hj hv => hval j t v (by simpa using hj) (by simpa using hv)) E00 [] (rel00 W) (fun i b hb => by simp at hb)
  simp only [List.nil_append] at R N D
  obtain ⟨h', hsp⟩ := spec avs l ⟨L, D⟩
  have hlen : ds.length = fn.params.size := by
    have : ∀ (ts : List TypeId) (vs : List Value) (ds : List (DataW H)) (ps : List MemPlace), DataW.TrodAll enc C.prog W 0 (fun _ => true) true ts vs ds ps → ds.length = ts.length := by
      intro ts
      induction ts with
      | nil =>
        intro vs ds ps h
        cases vs <;> cases ds <;> simp [DataW.TrodAll] at h ⊢
      | cons t ts ih =>
        intro vs ds ps h
        cases vs <;> cases ds <;> simp only [DataW.TrodAll] at h
        obtain ⟨_, _, _, h, _⟩ := h
        simp [ih _ _ _ h]
    rw [this _ _ _ _ h1]; simp
  have hc := hsp E W args.toList R V
  simp only [Array.toArray_toList] at hc
  refine hc.mono fun e W' hp => ?_
  obtain ⟨E', x, rfl, hx, m⟩ := hp
  simp only [VRel] at hx
  subst hx
  exact ⟨_, rfl, post_true hl hvars (fun t ht => (hread t ht).1.1) hres hbool (hs ds hlen) hW0 (below_of_moves N m)⟩

end Go.Vab
