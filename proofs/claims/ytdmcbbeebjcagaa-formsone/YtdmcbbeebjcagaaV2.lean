/-
  What a reading of the arguments tells: abstract values, and blocks that are only read.
-/
import Derived.Test.YtdmcbbeebjcagaaV1
import Derived.ProofKit
import Derived.OpenShut
import Derived.Maps.Keyed
import Derived.Carry
import Derived.KernelRfl
set_option linter.all false
set_option linter.unusedSectionVars false
namespace Go.Vab
open Go

/-- What a value of a type may be that was read. -/
def Rd (P : Program) (tt : Nat → Option TI) (h : Heap) : Nat → TypeId → AV → Prop
  | 0, _, _ => False
  | n + 1, t, v => match P.underlying t with
    | some .bool => ∃ b, v = .bool b
    | some (.int k) => ∃ x, v = .int k x ∧ (Lit.int k x).wf = true
    | some .string => ∃ s, v = .str s ∧ s.size ≤ maxLen
    | some (.slice e) => v = .nilslice ∨ ∃ i el row m len cap, v = .slice i 0 [] el.ty 0 len (some cap) ∧ tt e = some el ∧ h[i]? = some ⟨row, 0, m⟩ ∧ hasTy row (.arr cap el.ty) = true ∧ len ≤ cap ∧ cap ≤ maxLen ∧
        ∀ j, j < cap → ∃ x, row.get [j] = some x ∧ Rd P tt h n e x
    | some (.struct fs) => ∃ vs, v = .node vs ∧ ∀ (f : Nat) x, fs[f]? = some x → ∃ y, vs[f]? = some y ∧ Rd P tt h n x.type y
    | some (.array m e) => ∀ j, j < m → ∃ x, v.get [j] = some x ∧ Rd P tt h n e x
    | _ => False

theorem Rd.app {P : Program} {tt : Nat → Option TI} {h : Heap} (l : Heap) : ∀ (n : Nat) (t : TypeId) (v : AV), Rd P tt h n t v → Rd P tt (h ++ l) n t v
  | 0, _, _, hr => hr
  | n + 1, t, v, hr => by
    unfold Rd at hr ⊢
    split at hr
    · exact hr
    · exact hr
    · exact hr
    · rcases hr with hr | ⟨i, el, row, m, len, cap, h1, h2, h3, h4, h5, h6, h7⟩
      · exact .inl hr
      · exact .inr ⟨i, el, row, m, len, cap, h1, h2, by rw [List.getElem?_append_left (List.getElem?_eq_some_iff.1 h3).1]; exact h3, h4, h5, h6, fun j hj => let ⟨x, hx, hy⟩ := h7 j hj; ⟨x, hx, Rd.app l n _ _ hy⟩⟩
    · obtain ⟨vs, h1, h2⟩ := hr
      exact ⟨vs, h1, fun f x hx => let ⟨y, hy, hz⟩ := h2 f x hx; ⟨y, hy, Rd.app l n _ _ hz⟩⟩
    · intro j hj
      obtain ⟨x, hx, hy⟩ := hr j hj
      exact ⟨x, hx, Rd.app l n _ _ hy⟩
    · exact hr

/-- Nothing of it may be written. -/
def NoOwn (E : Gh) (h : Heap) : Prop := ∀ i b, h[i]? = some b → ¬ Own E i b

def Gh.pushAt (E : Gh) (blk base : Nat) (many : Bool) (ty : Ty) : Gh where
  n := E.n + 1
  blk i := if i = E.n then blk else E.blk i
  base i := if i = E.n then base else E.base i
  room i := if i = E.n then 0 else E.room i
  ver i := if i = E.n then 0 else E.ver i
  many i := if i = E.n then many else E.many i
  ty i := if i = E.n then ty else E.ty i

theorem Gh.pushAt_ext (E : Gh) (blk base : Nat) (many : Bool) (ty : Ty) : Ext E (E.pushAt blk base many ty) := by
  refine ⟨Nat.le_succ _, fun i hi => ?_, fun i hi => ?_, fun i hi => ?_, fun i hi _ => ?_⟩ <;> simp [Gh.pushAt, Nat.ne_of_lt hi]

theorem rel_push {E : Gh} {h : Heap} {w : World} (R : RelHeap E h w) (N : NoOwn E h) (b : Blk) (blk base : Nat) (many : Bool) (ty : Ty) (hver : b.ver = 0)
    (hfits : if many = true then ∃ n t, ty = .arr 0 t ∧ hasTy b.v (.arr n t) = true else hasTy b.v ty = true) {l : List Value} (hl : VRl E b.v l)
    (hcell : (b.mode = .ro ∧ ∃ arr te fr pre post, w.heap[blk]? = some (.cells arr te fr) ∧ arr.toList = pre ++ l ++ post ∧ pre.length = base) ∨ (b.mode = .open ∧ many = true ∧ l = [] ∧ b.v.rowLen = some 0)) :
    RelHeap (E.pushAt blk base many ty) (h ++ [b]) w ∧ NoOwn (E.pushAt blk base many ty) (h ++ [b]) := by
  have hX := Gh.pushAt_ext E blk base many ty
  have hget : ∀ (j : Nat) (c : Blk), (h ++ [b])[j]? = some c → (j = E.n ∧ c = b) ∨ (j < E.n ∧ h[j]? = some c) := by
    intro j c hj
    rw [R.n]
    by_cases e : j < h.length
    · rw [List.getElem?_append_left e] at hj; exact .inr ⟨e, hj⟩
    · rw [List.getElem?_append_right (by omega)] at hj
      have : j - h.length = 0 := by
        have := (List.getElem?_eq_some_iff.1 hj).1
        simp at this; omega
      rw [this] at hj; simp at hj
      exact .inl ⟨by omega, hj.symm⟩
  have hplaced : ∀ (j : Nat) (c : Blk), j < E.n → (Placed (E.pushAt blk base many ty) j c ↔ Placed E j c) := fun j c hj => by
    unfold Placed; simp [Gh.pushAt, Nat.ne_of_lt hj]
  have hno : NoOwn (E.pushAt blk base many ty) (h ++ [b]) := by
    intro j c hj hO
    rcases hget j c hj with ⟨rfl, rfl⟩ | ⟨hjn, hj⟩
    · rcases hcell with ⟨hm, _⟩ | ⟨hm, _⟩
      · exact hO.1 hm
      · exact hO.2 ⟨hm, by simp [Gh.pushAt]⟩
    · exact N j c hj ⟨hO.1, (hplaced j c hjn).1 hO.2⟩
  refine ⟨⟨by simp [Gh.pushAt, R.n], fun j c hj => ?_, fun j k c d hj hk hP hO e => absurd hO (hno k d hk)⟩, hno⟩
  rcases hget j c hj with ⟨rfl, rfl⟩ | ⟨hjn, hj⟩
  · refine ⟨by simp [Gh.pushAt, hver], ?_, fun hm => (by rcases hcell with ⟨h1, _⟩ | ⟨h1, _⟩ <;> (rw [h1] at hm; cases hm)), fun _ => ⟨l, VRl.mono hX _ _ hl, fun hP => ?_, fun hP => ?_⟩, fun hm => ?_⟩
    · unfold Fits; simpa [Gh.pushAt] using hfits
    · rcases hcell with ⟨hm, arr, te, fr, pre, post, e, e1, e2⟩ | ⟨hm, _⟩
      · exact ⟨arr, te, fr, pre, post, by simpa [Gh.pushAt] using e, e1, by simpa [Gh.pushAt] using e2, fun hn => absurd hm hn⟩
      · exact absurd ⟨hm, by simp [Gh.pushAt]⟩ hP
    · rcases hcell with ⟨hm, _⟩ | ⟨_, _, hl0, _⟩
      · exact absurd (fun hh => by rw [hm] at hh; cases hh.1) hP
      · exact hl0
    · rcases hcell with ⟨hm', _⟩ | ⟨_, hM, _, hr⟩
      · rw [hm'] at hm; cases hm
      · exact ⟨by simpa [Gh.pushAt] using hM, by rw [hr, hver]⟩
  · have B := R.at_ j c hj
    have hne := Nat.ne_of_lt hjn
    refine ⟨by simp [Gh.pushAt, hne, B.ver], ?_, fun hm => (B.mp hm).ghost (by simp [Gh.pushAt, hne]) (by simp [Gh.pushAt, hne]) (by simp [Gh.pushAt, hne]), fun hmm => ?_, fun hm => ?_⟩
    · have := B.fits; unfold Fits at this ⊢; simpa [Gh.pushAt, hne] using this
    · obtain ⟨l', hl1, hl2, hl3⟩ := B.body hmm
      refine ⟨l', VRl.mono hX _ _ hl1, fun hP => ?_, fun hP => hl3 (fun q => hP ((hplaced j c hjn).2 q))⟩
      have := hl2 ((hplaced j c hjn).1 hP)
      simpa [Gh.pushAt, hne] using this
    · have := B.grow hm; simpa [Gh.pushAt, hne] using this

/-- The row of elements. -/
def mkRow : Ty → List AV → AV
  | .int k, vs => .ints k (vs.map fun v => match v with | .int _ n => n | _ => 0)
  | _, vs => .node vs

theorem mkRow_spec {E : Gh} {u : Ty} : ∀ {vs : List AV} {cs : List Value}, (∀ v ∈ vs, hasTy v u = true) → VRs E vs cs →
    VRl E (mkRow u vs) cs ∧ hasTy (mkRow u vs) (.arr vs.length u) = true ∧ (∀ j, (mkRow u vs).get [j] = vs[j]?) ∧ (mkRow u vs).rowLen = some vs.length := by
  intro vs cs ht hr
  cases u with
  | int k =>
    have hk : ∀ v ∈ vs, ∃ n, v = .int k n := by
      intro v hv
      have := ht v hv
      cases v <;> simp [hasTy] at this
      exact ⟨_, by rw [this]⟩
    refine ⟨?_, by simp [mkRow, hasTy], fun j => ?_, by simp [mkRow, AV.rowLen]⟩
    · simp only [mkRow, VRl]
      clear ht
      induction vs generalizing cs with
      | nil => simp only [VRs] at hr; subst hr; rfl
      | cons v vs ih =>
        simp only [VRs] at hr
        obtain ⟨l1, l2, rfl, h1, h2⟩ := hr
        obtain ⟨n, rfl⟩ := hk v (List.mem_cons_self ..)
        simp only [VRl] at h1
        subst h1
        have := ih h2 (fun v hv => hk v (List.mem_cons_of_mem _ hv))
        simp [this]
    · simp only [mkRow, AV.get, List.getElem?_map]
      cases hj : vs[j]? with
      | none => rfl
      | some v =>
        obtain ⟨n, rfl⟩ := hk v (List.mem_of_getElem? hj)
        rfl
  | cell => exact ⟨by simpa only [mkRow, VRl] using hr, by simp [mkRow, hasTy, (hasTyAll_iff vs _).2 ht], fun j => by simp only [mkRow, get_node]; cases vs[j]? <;> simp, by simp [mkRow, AV.rowLen]⟩
  | arr m t => exact ⟨by simpa only [mkRow, VRl] using hr, by simp [mkRow, hasTy, (hasTyAll_iff vs _).2 ht], fun j => by simp only [mkRow, get_node]; cases vs[j]? <;> simp, by simp [mkRow, AV.rowLen]⟩
  | struct ts => exact ⟨by simpa only [mkRow, VRl] using hr, by simp [mkRow, hasTy, (hasTyAll_iff vs _).2 ht], fun j => by simp only [mkRow, get_node]; cases vs[j]? <;> simp, by simp [mkRow, AV.rowLen]⟩

/-! the cells of rows and structs in parts -/
theorem chop (s : Nat) : ∀ (n : Nat) (cs : List Value), cs.length = n * s → (List.range n).flatMap (fun i => (cs.drop (i * s)).take s) = cs
  | 0, cs, h => by simp at h; simp [h]
  | n + 1, cs, h => by
    have h1 : (cs.drop s).length = n * s := by rw [List.length_drop, h, Nat.succ_mul]; omega
    have := chop s n (cs.drop s) h1
    rw [List.range_succ_eq_map, List.flatMap_cons, List.flatMap_map]
    have e : (List.range n).flatMap (fun a => (cs.drop ((a + 1) * s)).take s) = (List.range n).flatMap (fun i => ((cs.drop s).drop (i * s)).take s) := by
      congr 1; funext a; rw [List.drop_drop, Nat.succ_mul, Nat.add_comm]
    simp only [Nat.zero_mul, List.drop_zero]
    rw [e, this, List.take_append_drop]

theorem chops : ∀ (ts : List Ty) (cs : List Value), cs.length = Ty.sizes ts → (List.range ts.length).flatMap (fun f => (cs.drop (Ty.sizes (ts.take f))).take (match ts[f]? with | some t => t.size | none => 0)) = cs
  | [], cs, h => by simp [Ty.sizes] at h; simp [h]
  | t :: ts, cs, h => by
    simp only [Ty.sizes] at h
    have h1 : (cs.drop t.size).length = Ty.sizes ts := by rw [List.length_drop, h]; omega
    have := chops ts (cs.drop t.size) h1
    rw [List.length_cons, List.range_succ_eq_map, List.flatMap_cons, List.flatMap_map]
    have e : (List.range ts.length).flatMap (fun a => (cs.drop (Ty.sizes ((t :: ts).take (a + 1)))).take (match (t :: ts)[a + 1]? with | some t => t.size | none => 0)) =
        (List.range ts.length).flatMap (fun f => ((cs.drop t.size).drop (Ty.sizes (ts.take f))).take (match ts[f]? with | some t => t.size | none => 0)) := by
      congr 1; funext a
      rw [List.drop_drop, List.take_succ_cons, List.getElem?_cons_succ]
      simp only [Ty.sizes]
    simp only [List.take_zero, Ty.sizes, List.drop_zero, List.getElem?_cons_zero]
    rw [e, this, List.take_append_drop]

/-- The types that are read so: numbers, bools, strings; structs, arrays and slices of such. -/
def plainTypeB (P : Program) (tt : Nat → Option TI) (ok : List TypeId) (t : TypeId) : Bool := match tt t, P.underlying t with
  | some i, some .bool => Ty.beq i.ty .cell
  | some i, some .string => Ty.beq i.ty .cell
  | some i, some (.int k) => Ty.beq i.ty (.int k)
  | some i, some (.slice e) => Ty.beq i.ty .cell && (match tt e with | some j => decide (j.ty.size ≠ 0) && decide (P.cellsOf e = j.ty.size) | none => false) && ok.contains e
  | some i, some (.struct fs) => (match i.ty with | .struct _ => true | _ => false) && (fs.toList.all fun f => ok.contains f.type && (match tt f.type with | some j => decide (P.cellsOf f.type = j.ty.size) | none => false))
  | some i, some (.array _ e) => (match i.ty with | .arr _ _ => true | _ => false) && ok.contains e && (match tt e with | some j => decide (P.cellsOf e = j.ty.size) | none => false)
  | _, _ => false

def plainB (P : Program) (tt : Nat → Option TI) (ok : List TypeId) : Bool := ok.all (plainTypeB P tt ok) && ok.all fun t => match tt t with | some i => decide (P.cellsOf t = i.ty.size) | none => false

section
variable {H : Type} {enc : TypeId × Value → H} {P : Program} {tt : Nat → Option TI} {ok : List TypeId} {w : World}

/-- What was read of a cell row is an abstract value, over some more memory that is only read. -/
def Read (P : Program) (tt : Nat → Option TI) (w : World) (n : Nat) (t : TypeId) (cs : List Value) : Prop :=
  ∀ E h, RelHeap E h w → NoOwn E h → ∀ i, tt t = some i → ∃ E' l v, RelHeap E' (h ++ l) w ∧ NoOwn E' (h ++ l) ∧ Ext E E' ∧ VRl E' v cs ∧ hasTy v i.ty = true ∧ Rd P tt (h ++ l) n t v

/-- Several of them, one behind the other. -/
theorem Read.list {n : Nat} : ∀ (items : List (TypeId × List Value)), (∀ x ∈ items, Read P tt w n x.1 x.2) → (∀ x ∈ items, ∃ i, tt x.1 = some i) →
    ∀ E h, RelHeap E h w → NoOwn E h → ∃ E' l vs, RelHeap E' (h ++ l) w ∧ NoOwn E' (h ++ l) ∧ Ext E E' ∧ VRs E' vs (items.flatMap (·.2)) ∧ vs.length = items.length ∧
      ∀ (j : Nat) x, items[j]? = some x → ∃ v i, vs[j]? = some v ∧ tt x.1 = some i ∧ hasTy v i.ty = true ∧ VRl E' v x.2 ∧ Rd P tt (h ++ l) n x.1 v
  | [], _, _, E, h, R, N => ⟨E, [], [], by simpa using R, by simpa using N, Ext.refl E, by simp [VRs], rfl, fun j x hx => by simp at hx⟩
  | x :: items, hr, ht, E, h, R, N => by
    obtain ⟨i, hi⟩ := ht x (List.mem_cons_self ..)
    obtain ⟨E1, l1, v, R1, N1, X1, V1, T1, D1⟩ := hr x (List.mem_cons_self ..) E h R N i hi
    obtain ⟨E2, l2, vs, R2, N2, X2, V2, L2, D2⟩ := Read.list items (fun y hy => hr y (List.mem_cons_of_mem _ hy)) (fun y hy => ht y (List.mem_cons_of_mem _ hy)) E1 (h ++ l1) R1 N1
    refine ⟨E2, l1 ++ l2, v :: vs, by rw [← List.append_assoc]; exact R2, by rw [← List.append_assoc]; exact N2, X1.trans X2, ?_, by simp [L2], fun j y hy => ?_⟩
    · rw [List.flatMap_cons]; exact VRs.cons (VRl.mono X2 _ _ V1) V2
    · rw [← List.append_assoc]
      cases j with
      | zero =>
        simp at hy; subst hy
        exact ⟨v, i, rfl, hi, T1, VRl.mono X2 _ _ V1, Rd.app l2 _ _ _ D1⟩
      | succ j =>
        simp only [List.getElem?_cons_succ] at hy ⊢
        exact D2 j y hy

theorem flatMap_of_get {α β : Type} {f : Nat → List β} {l : List α} {n : Nat} (hl : l.length = n) {g : α → List β} (h : ∀ (i : Nat) x, l[i]? = some x → g x = f i) : l.flatMap g = (List.range n).flatMap f := by
  subst hl
  rw [List.flatMap_def, List.flatMap_def]
  congr 1
  apply List.ext_getElem?
  intro i
  rw [List.getElem?_map, List.getElem?_map]
  by_cases hi : i < l.length
  · rw [List.getElem?_range hi, List.getElem?_eq_getElem hi]
    simp only [Option.map_some]
    rw [h i _ (List.getElem?_eq_getElem hi)]
  · rw [List.getElem?_eq_none (by omega), List.getElem?_eq_none (by simpa using hi)]; rfl

theorem hasTys_of : ∀ {vs : List AV} {ts : List Ty}, vs.length = ts.length → (∀ (f : Nat) v t, vs[f]? = some v → ts[f]? = some t → hasTy v t = true) → hasTys vs ts = true
  | [], [], _, _ => rfl
  | v :: vs, t :: ts, hl, h => by
    simp only [hasTys, Bool.and_eq_true]
    exact ⟨h 0 v t rfl rfl, hasTys_of (by simpa using hl) fun f v t hv ht => h (f + 1) v t (by simpa using hv) (by simpa using ht)⟩
  | [], _ :: _, hl, _ => by simp at hl
  | _ :: _, [], hl, _ => by simp at hl

theorem cells_block {b : Addr} {s : Nat} {cs : List Value} (hs : 0 < s) (h : w.cells? 0 b s = some cs) :
    ∃ arr te fr, w.heap[b.block]? = some (.cells arr te fr) ∧ b.spot = none ∧ b.off + s ≤ arr.size ∧ cs = (arr.toList.drop b.off).take s := by
  obtain ⟨_, hl, hg⟩ := World.cells?_some h
  have h0 := hg 0 hs
  have e0 : b.add 0 = b := by simp [Addr.add]
  rw [e0, List.getElem?_eq_getElem (by omega)] at h0
  unfold World.cell? at h0
  split at h0
  · rename_i arr te fr hb
    split at h0
    · cases h0
    · rename_i hsp
      have hspot : b.spot = none := by simpa using hsp
      have hcell : ∀ i, i < s → arr[b.off + i]? = cs[i]? := by
        intro i hi
        have := hg i hi
        by_cases hz : i = 0
        · subst hz
          rw [e0] at this
          unfold World.cell? at this
          rw [hb] at this
          simpa [hspot] using this
        · have e : (b.add i) = ⟨b.block, b.off + i, none⟩ := by simp [Addr.add, hz]
          rw [e] at this
          unfold World.cell? at this
          rw [hb] at this
          simpa using this
      have hlast := hcell (s - 1) (by omega)
      rw [List.getElem?_eq_getElem (by omega)] at hlast
      have hlt := (Array.getElem?_eq_some_iff.1 hlast).1
      refine ⟨arr, te, fr, hb, hspot, by omega, ?_⟩
      apply List.ext_getElem?
      intro i
      by_cases hi : i < s
      · rw [← hcell i hi, List.getElem?_take, if_pos hi, List.getElem?_drop]; simp
      · rw [List.getElem?_eq_none (by omega), List.getElem?_eq_none (by simp; omega)]
  · cases h0

theorem rows_block {a : Addr} {s c : Nat} {f : Nat → List Value} (hs : 0 < s) (hc : 0 < c) (h : ∀ i, i < c → w.cells? 0 (a.add (i * s)) s = some (f i)) :
    ∃ arr te fr pre post, w.heap[a.block]? = some (.cells arr te fr) ∧ a.spot = none ∧ arr.toList = pre ++ (List.range c).flatMap f ++ post ∧ pre.length = a.off := by
  have h0 := h 0 hc
  have e0 : a.add (0 * s) = a := by simp [Addr.add]
  rw [e0] at h0
  obtain ⟨arr, te, fr, hb, hsp, hle, _⟩ := cells_block hs h0
  have hf : ∀ i, i < c → a.off + i * s + s ≤ arr.size ∧ f i = (arr.toList.drop (a.off + i * s)).take s := by
    intro i hi
    obtain ⟨arr', te', fr', hb', _, hle', e'⟩ := cells_block hs (h i hi)
    have e1 : (a.add (i * s)).block = a.block ∧ (a.add (i * s)).off = a.off + i * s := by
      unfold Addr.add; split
      · rename_i hz; simp [hz]
      · simp
    rw [e1.1, hb] at hb'
    simp only [Option.some.injEq, Obj.cells.injEq] at hb'
    rw [e1.2, ← hb'.1] at hle' e'
    exact ⟨hle', e'⟩
  have hend := (hf (c - 1) (by omega)).1
  have hcs : (c - 1) * s + s = c * s := by rw [← Nat.succ_mul]; congr 1; omega
  refine ⟨arr, te, fr, arr.toList.take a.off, arr.toList.drop (a.off + c * s), hb, hsp, ?_, by simp; omega⟩
  have e2 := chop s c ((arr.toList.drop a.off).take (c * s)) (by simp; omega)
  have e3 : (List.range c).flatMap f = (List.range c).flatMap (fun i => (((arr.toList.drop a.off).take (c * s)).drop (i * s)).take s) := by
    rw [List.flatMap_def, List.flatMap_def]
    congr 1
    refine List.map_congr_left fun i hi => ?_
    have hi := List.mem_range.1 hi
    have hm : (i + 1) * s ≤ c * s := Nat.mul_le_mul_right _ hi
    rw [Nat.succ_mul] at hm
    rw [(hf i hi).2, List.drop_take, List.take_take, List.drop_drop, Nat.min_eq_left (by omega)]
  rw [e3, e2, List.append_assoc, ← List.drop_drop, List.take_append_drop, List.take_append_drop]

theorem read_ok (T : TTok P tt) (hok : plainB P tt ok = true) : ∀ (n : Nat) (t : TypeId) (cs : List Value) (x : DataW H × List MemPlace), ok.contains t = true →
    DataW.trod enc P w 0 (fun _ => true) true n t cs = some x → Read P tt w n t cs
  | 0, t, cs, x, _, h => by simp [DataW.trod] at h
  | n + 1, t, cs, x, hm, h => by
    intro E hp R N i hi
    have hok2 := hok
    simp only [plainB, Bool.and_eq_true, List.all_eq_true] at hok
    have hb := hok.1 t (by simpa using hm)
    unfold plainTypeB at hb
    rw [hi] at hb
    have keep : ∀ v : AV, VRl E v cs → hasTy v i.ty = true → Rd P tt (hp ++ []) (n + 1) t v → ∃ E' l v, RelHeap E' (hp ++ l) w ∧ NoOwn E' (hp ++ l) ∧ Ext E E' ∧ VRl E' v cs ∧ hasTy v i.ty = true ∧ Rd P tt (hp ++ l) (n + 1) t v :=
      fun v h1 h2 h3 => ⟨E, [], v, by simpa using R, by simpa using N, Ext.refl E, h1, h2, h3⟩
    cases hu : P.underlying t with
    | none => rw [hu] at hb; simp at hb
    | some d =>
      rw [hu] at hb
      cases d <;> try (simp only [Bool.false_eq_true] at hb; done)
      case bool =>
        obtain ⟨b, rfl, _⟩ := DataW.trod_bool hu h
        have hty := Ty.beq_eq _ _ hb
        exact keep (.bool b) (by simp only [VRl]) (by rw [hty]; rfl) (by simp only [Rd, hu]; exact ⟨_, rfl⟩)
      case string =>
        obtain ⟨b, rfl, _, hm⟩ := DataW.trod_string hu h
        have hty := Ty.beq_eq _ _ hb
        exact keep (.str b) (by simp only [VRl]) (by rw [hty]; rfl) (by simp only [Rd, hu]; exact ⟨_, rfl, hm⟩)
      case int k =>
        obtain ⟨b, rfl, _, hm⟩ := DataW.trod_int hu h
        have hty := Ty.beq_eq _ _ hb
        exact keep (.int k b) (by simp only [VRl]) (by rw [hty]; simp [hasTy]) (by simp only [Rd, hu]; exact ⟨_, rfl, hm⟩)
      case slice e =>
        simp only [Bool.and_eq_true] at hb
        obtain ⟨⟨hty, he⟩, hoe⟩ := hb
        have hty := Ty.beq_eq _ _ hty
        cases hel : tt e with
        | none => rw [hel] at he; cases he
        | some el =>
          rw [hel] at he
          simp only [Bool.and_eq_true, decide_eq_true_eq] at he
          obtain ⟨hsz, hcz⟩ := he
          rcases DataW.trod_slice hu h with ⟨rfl, _⟩ | ⟨a, len, cap, elems, rest, n', hn, rfl, _, _, hl, hmx, hlen, hel1, hel2, _⟩
          · exact keep .nilslice (by simp only [VRl]) (by rw [hty]; rfl) (by simp only [Rd, hu]; exact .inl trivial)
          · have hn' : n = n' := by omega
            subst hn'
            have hall : ∀ k, k < cap → ∃ cs' y, w.cells? 0 (a.add (k * P.cellsOf e)) (P.cellsOf e) = some cs' ∧ DataW.trod enc P w 0 (fun _ => true) true n e cs' = some y := by
              intro k hk
              have key : ∃ y, (w.cells? 0 (a.add (k * P.cellsOf e)) (P.cellsOf e)).bind (DataW.trod enc P w 0 (fun _ => true) true n e) = some y := by
                by_cases hkl : k < len
                · exact ⟨elems[k]'(by omega), by rw [hel1 k hkl, List.getElem?_eq_getElem (by omega)]⟩
                · obtain ⟨h1, h2⟩ := hel2 rfl
                  have := h2 (k - len) (by omega)
                  rw [show len + (k - len) = k by omega] at this
                  exact ⟨rest[k - len]'(by omega), by rw [this, List.getElem?_eq_getElem (by omega)]⟩
              obtain ⟨y, hy⟩ := key
              obtain ⟨cs', h1, h2⟩ := Option.bind_eq_some_iff.1 hy
              exact ⟨cs', y, h1, h2⟩
            rw [hcz] at hall
            let f : Nat → List Value := fun k => (w.cells? 0 (a.add (k * el.ty.size)) el.ty.size).getD []
            have hf : ∀ k, k < cap → w.cells? 0 (a.add (k * el.ty.size)) el.ty.size = some (f k) ∧ ∃ y, DataW.trod enc P w 0 (fun _ => true) true n e (f k) = some y := by
              intro k hk
              obtain ⟨cs', y, h1, h2⟩ := hall k hk
              have : f k = cs' := by simp only [f, h1, Option.getD_some]
              rw [this]
              exact ⟨h1, y, h2⟩
            obtain ⟨E1, l1, vs, R1, N1, X1, V1, L1, D1⟩ := Read.list (P := P) (tt := tt) (w := w) (n := n) ((List.range cap).map fun k => (e, f k))
              (fun y hy => by
                obtain ⟨k, hk, rfl⟩ := List.mem_map.1 hy
                obtain ⟨_, z, hz⟩ := hf k (List.mem_range.1 hk)
                exact read_ok T hok2 n e (f k) z hoe hz)
              (fun y hy => by obtain ⟨k, _, rfl⟩ := List.mem_map.1 hy; exact ⟨el, hel⟩) E hp R N
            rw [List.length_map, List.length_range] at L1
            have hcells : ((List.range cap).map fun k => (e, f k)).flatMap (·.2) = (List.range cap).flatMap f := by rw [List.flatMap_map]
            rw [hcells] at V1
            have helem : ∀ j, j < cap → ∃ v, vs[j]? = some v ∧ hasTy v el.ty = true ∧ Rd P tt (hp ++ l1) n e v := by
              intro j hj
              obtain ⟨v, i', hv, hi', ht, _, hr⟩ := D1 j (e, f j) (by simp [hj])
              rw [hel] at hi'
              simp only [Option.some.injEq] at hi'
              subst hi'
              exact ⟨v, hv, ht, hr⟩
            obtain ⟨W1, W2, W3, W4⟩ := mkRow_spec (u := el.ty) (fun v hv => by
              obtain ⟨j, hj⟩ := List.getElem?_of_mem hv
              obtain ⟨v', hv', ht, _⟩ := helem j (by have := (List.getElem?_eq_some_iff.1 hj).1; omega)
              rw [hj] at hv'
              simp only [Option.some.injEq] at hv'
              rw [hv']; exact ht) V1
            rw [L1] at W2
            have hres : ∀ (m : Mode) (many : Bool) (ty : Ty), RelHeap (E1.pushAt a.block a.off many ty) ((hp ++ l1) ++ [⟨mkRow el.ty vs, 0, m⟩]) w → NoOwn (E1.pushAt a.block a.off many ty) ((hp ++ l1) ++ [⟨mkRow el.ty vs, 0, m⟩]) →
                (∃ c, ty = .arr c el.ty) → (cap ≠ 0 → a.spot = none) →
                ∃ E' l v, RelHeap E' (hp ++ l) w ∧ NoOwn E' (hp ++ l) ∧ Ext E E' ∧ VRl E' v [.slice (some a) len cap] ∧ hasTy v i.ty = true ∧ Rd P tt (hp ++ l) (n + 1) t v := by
              intro m many ty R2 N2 ⟨c', hty'⟩ hsp
              refine ⟨E1.pushAt a.block a.off many ty, l1 ++ [⟨mkRow el.ty vs, 0, m⟩], .slice (hp ++ l1).length 0 [] el.ty 0 len (some cap), by rw [← List.append_assoc]; exact R2, by rw [← List.append_assoc]; exact N2,
                X1.trans (Gh.pushAt_ext ..), ?_, by rw [hty]; rfl, ?_⟩
              · simp only [VRl]
                have hE : (hp ++ l1).length = E1.n := R1.n.symm
                rw [hE]
                refine ⟨a, cap, rfl, by simp [Gh.pushAt], by simp, hl, by simp, by simp, fun _ => ⟨0, c', by simp [Gh.pushAt, hty', Ty.sub], fun hc => ?_, by simp⟩⟩
                have hs := hsp hc
                cases a
                simp only at hs
                simp [Gh.pushAt, hs]
              · unfold Rd
                rw [hu]
                right
                refine ⟨_, el, mkRow el.ty vs, m, len, cap, rfl, hel, ?_, W2, hl, hmx, fun j hj => ?_⟩
                · rw [← List.append_assoc, List.getElem?_append_right (Nat.le_refl _)]; simp
                · obtain ⟨v, hv, _, hr⟩ := helem j hj
                  exact ⟨v, by rw [W3, hv], by rw [← List.append_assoc]; exact Rd.app _ _ _ _ hr⟩
            by_cases hc0 : cap = 0
            · subst hc0
              have hz : vs = [] := List.eq_nil_of_length_eq_zero L1
              obtain ⟨R2, N2⟩ := rel_push R1 N1 ⟨mkRow el.ty vs, 0, .open⟩ a.block a.off true (.arr 0 el.ty) rfl (by simp only [if_true]; exact ⟨0, el.ty, rfl, W2⟩) W1 (.inr ⟨rfl, rfl, rfl, by rw [W4, L1]⟩)
              exact hres .open true _ R2 N2 ⟨0, rfl⟩ (fun h => absurd rfl h)
            · obtain ⟨arr, te, fr, pre, post, g1, g2, g3, g4⟩ := rows_block (w := w) (a := a) (Nat.pos_of_ne_zero hsz) (Nat.pos_of_ne_zero hc0) (fun k hk => (hf k hk).1)
              obtain ⟨R2, N2⟩ := rel_push R1 N1 ⟨mkRow el.ty vs, 0, .ro⟩ a.block a.off false (.arr cap el.ty) rfl (by simpa using W2) W1 (.inl ⟨rfl, arr, te, fr, pre, post, g1, g3, g4⟩)
              exact hres .ro false _ R2 N2 ⟨cap, rfl⟩ (fun _ => g2)
      case struct fs =>
        simp only [Bool.and_eq_true, List.all_eq_true] at hb
        obtain ⟨hty, hfs⟩ := hb
        cases hit : i.ty with
        | struct ts =>
          obtain ⟨fs', hu', hsz, _, hfld⟩ := T.struct t i ts hi hit
          rw [hu] at hu'
          simp only [Option.some.injEq, TypeDesc.struct.injEq] at hu'
          subst hu'
          obtain ⟨xs, n', hn, _, hlen, hxl, hx⟩ := DataW.trod_struct hu h
          have hn' : n = n' := by omega
          subst hn'
          have hcell := hok.2 t (by simpa using hm)
          rw [hi] at hcell
          simp only [decide_eq_true_eq] at hcell
          rw [hcell, hit] at hlen
          simp only [Ty.size] at hlen
          have hch := chops ts cs hlen
          have hf : ∀ (f : Nat) (y : Field), fs[f]? = some y → ∃ j, tt y.type = some j ∧ ts[f]? = some j.ty ∧ (cs.drop y.offset).take (P.cellsOf y.type) = (cs.drop (Ty.sizes (ts.take f))).take (match ts[f]? with | some t => t.size | none => 0) ∧ Read P tt w n y.type ((cs.drop y.offset).take (P.cellsOf y.type)) := by
            intro f y hy
            obtain ⟨_, ho, j, hj, htf, _⟩ := hfld f y hy
            have hmem : y ∈ fs.toList := List.mem_of_getElem? (by simpa using hy)
            have h3 := hfs y hmem
            rw [hj] at h3
            simp only [decide_eq_true_eq] at h3
            refine ⟨j, hj, htf, ?_, ?_⟩
            · rw [ho, h3.2, htf]
            · have hlt : f < fs.size := (Array.getElem?_eq_some_iff.1 hy).1
              have h4 := hx f y hy
              rw [List.getElem?_eq_getElem (by omega)] at h4
              exact read_ok T hok2 n y.type _ _ h3.1 h4
          obtain ⟨E1, l1, vs, R1, N1, X1, V1, L1, D1⟩ := Read.list (P := P) (tt := tt) (w := w) (n := n) (fs.toList.map fun y => (y.type, (cs.drop y.offset).take (P.cellsOf y.type)))
            (fun z hz => by
              obtain ⟨y, hy, rfl⟩ := List.mem_map.1 hz
              obtain ⟨f, hfy⟩ := List.getElem?_of_mem hy
              obtain ⟨j, _, _, _, hr⟩ := hf f y (by simpa using hfy)
              exact hr)
            (fun z hz => by
              obtain ⟨y, hy, rfl⟩ := List.mem_map.1 hz
              obtain ⟨f, hfy⟩ := List.getElem?_of_mem hy
              obtain ⟨j, hj, _⟩ := hf f y (by simpa using hfy)
              exact ⟨j, hj⟩) E hp R N
          rw [List.length_map] at L1
          have L1 : vs.length = fs.size := by rw [L1]; simp
          have hcat : (fs.toList.map fun y => (y.type, (cs.drop y.offset).take (P.cellsOf y.type))).flatMap (·.2) = cs := by
            rw [List.flatMap_map]
            rw [flatMap_of_get (n := ts.length) (f := fun f => (cs.drop (Ty.sizes (ts.take f))).take (match ts[f]? with | some t => t.size | none => 0)) (by simpa using hsz) (fun f y hy => ?_)]
            · exact hch
            · obtain ⟨j, _, _, he, _⟩ := hf f y (by simpa using hy)
              exact he
          rw [hcat] at V1
          have hD : ∀ (f : Nat) (y : Field), fs[f]? = some y → ∃ v, ∃ j : TI, vs[f]? = some v ∧ ts[f]? = some j.ty ∧ hasTy v j.ty = true ∧ Rd P tt (hp ++ l1) n y.type v := by
            intro f y hy
            obtain ⟨v, j', hv, hj', ht, _, hr⟩ := D1 f (y.type, (cs.drop y.offset).take (P.cellsOf y.type)) (by rw [List.getElem?_map, Array.getElem?_toList, hy]; rfl)
            obtain ⟨j, hj, htf, _⟩ := hf f y hy
            rw [hj] at hj'
            simp only [Option.some.injEq] at hj'
            subst hj'
            exact ⟨v, j, hv, htf, ht, hr⟩
          refine ⟨E1, l1, .node vs, R1, N1, X1, by simpa only [VRl] using V1, ?_, ?_⟩
          · simp only [hasTy]
            refine hasTys_of (by omega) (fun f v t' hv ht' => ?_)
            have hlt : f < fs.size := by have := (List.getElem?_eq_some_iff.1 hv).1; omega
            obtain ⟨v', j, hv', htf, ht, _⟩ := hD f fs[f] (Array.getElem?_eq_getElem hlt)
            rw [hv] at hv'; rw [ht'] at htf
            simp only [Option.some.injEq] at hv' htf
            rw [hv', htf]; exact ht
          · unfold Rd
            rw [hu]
            exact ⟨vs, rfl, fun f y hy => by obtain ⟨v, j, hv, _, _, hr⟩ := hD f y hy; exact ⟨v, hv, hr⟩⟩
        | int k => rw [hit] at hty; cases hty
        | cell => rw [hit] at hty; cases hty
        | arr a b => rw [hit] at hty; cases hty
      case array m e =>
        simp only [Bool.and_eq_true] at hb
        obtain ⟨⟨hty, hoe⟩, hce⟩ := hb
        cases hit : i.ty with
        | arr m' u =>
          obtain ⟨e', el, hu', hel, hjt⟩ := T.arr t i m' u hi hit
          rw [hu] at hu'
          simp only [Option.some.injEq, TypeDesc.array.injEq] at hu'
          obtain ⟨rfl, rfl⟩ := hu'
          rw [hel] at hce
          simp only [decide_eq_true_eq] at hce
          obtain ⟨xs, n', hn, _, hlen, hxl, hx⟩ := DataW.trod_array hu h
          have hn' : n = n' := by omega
          subst hn'
          have hcell := hok.2 t (by simpa using hm)
          rw [hi] at hcell
          simp only [decide_eq_true_eq] at hcell
          rw [hcell, hit] at hlen
          simp only [Ty.size] at hlen
          rw [← hjt] at hlen
          have hch := chop el.ty.size m cs hlen
          rw [hce] at hx
          obtain ⟨E1, l1, vs, R1, N1, X1, V1, L1, D1⟩ := Read.list (P := P) (tt := tt) (w := w) (n := n) ((List.range m).map fun k => (e, (cs.drop (k * el.ty.size)).take el.ty.size))
            (fun y hy => by
              obtain ⟨k, hk, rfl⟩ := List.mem_map.1 hy
              have hk := List.mem_range.1 hk
              have h4 := hx k hk
              rw [List.getElem?_eq_getElem (by omega)] at h4
              exact read_ok T hok2 n e _ _ hoe h4)
            (fun y hy => by obtain ⟨k, _, rfl⟩ := List.mem_map.1 hy; exact ⟨el, hel⟩) E hp R N
          rw [List.length_map, List.length_range] at L1
          rw [List.flatMap_map, hch] at V1
          have helem : ∀ j, j < m → ∃ v, vs[j]? = some v ∧ hasTy v el.ty = true ∧ Rd P tt (hp ++ l1) n e v := by
            intro j hj
            obtain ⟨v, i', hv, hi', ht, _, hr⟩ := D1 j (e, (cs.drop (j * el.ty.size)).take el.ty.size) (by simp [hj])
            rw [hel] at hi'
            simp only [Option.some.injEq] at hi'
            subst hi'
            exact ⟨v, hv, ht, hr⟩
          obtain ⟨W1, W2, W3, W4⟩ := mkRow_spec (u := el.ty) (fun v hv => by
            obtain ⟨j, hj⟩ := List.getElem?_of_mem hv
            obtain ⟨v', hv', ht, _⟩ := helem j (by have := (List.getElem?_eq_some_iff.1 hj).1; omega)
            rw [hj] at hv'
            simp only [Option.some.injEq] at hv'
            rw [hv']; exact ht) V1
          rw [L1] at W2
          refine ⟨E1, l1, mkRow el.ty vs, R1, N1, X1, W1, by rw [← hjt]; exact W2, ?_⟩
          unfold Rd
          rw [hu]
          intro j hj
          obtain ⟨v, hv, _, hr⟩ := helem j hj
          exact ⟨v, by rw [W3, hv], hr⟩
        | int k => rw [hit] at hty; cases hty
        | cell => rw [hit] at hty; cases hty
        | struct b => rw [hit] at hty; cases hty

open Go.RowKit Go.WideShapes Go.ChangeShapes

theorem value_of_cells (T : TTok P tt) {t : TypeId} {i : TI} (hi : tt t = some i) {W : World} {base : Nat} {v : Value} (hv : Value.okWide P W .any base t v) : v = ofCells i.ty.isAgg v.cells.toList := by
  obtain ⟨d, hd, hA⟩ := T.und hi
  unfold Value.okWide at hv
  rw [hd] at hv
  have one : ∀ x : Value, (∀ cs, x ≠ .agg cs) → x = ofCells false x.cells.toList := by
    intro x hx
    cases x <;> first
      | rfl
      | exact absurd rfl (hx _)
  cases d <;> simp only at hv hA <;> rw [← hA]
  case struct fs => obtain ⟨cs, rfl, _⟩ := hv; simp [ofCells, Value.cells]
  case array m e => obtain ⟨cs, rfl, _⟩ := hv; simp [ofCells, Value.cells]
  all_goals
    refine one v fun cs e => ?_
    subst e
    unfold Cell.okWide at hv
    rw [hd] at hv
    simp only at hv
    try (unfold Cell.ok at hv; rw [hd] at hv; exact hv)

/-- All arguments avs abstract values. -/
theorem read_args (T : TTok P tt) (hok : plainB P tt ok = true) {W : World} {base : Nat} : ∀ (ts : List TypeId) (vs : List Value) (ds : List (DataW H)) (ps : List MemPlace), (∀ t ∈ ts, ok.contains t = true) → (∀ t ∈ ts, ∃ i, tt t = some i) →
    DataW.TrodAll enc P W 0 (fun _ => true) true ts vs ds ps → (∀ (j : Nat) t v, ts[j]? = some t → vs[j]? = some v → Value.okWide P W .any base t v) →
    ∀ E h, RelHeap E h W → NoOwn E h → ∃ E' l avs, RelHeap E' (h ++ l) W ∧ NoOwn E' (h ++ l) ∧ Ext E E' ∧ VRc E' avs vs ∧ avs.length = ts.length ∧ ∀ (j : Nat) t a, ts[j]? = some t → avs[j]? = some a → ∃ n i, tt t = some i ∧ hasTy a i.ty = true ∧ Rd P tt (h ++ l) n t a
  | [], [], [], ps, _, _, _, _, E, h, R, N => ⟨E, [], [], by simpa using R, by simpa using N, Ext.refl E, by simp [VRc], rfl, fun j t a hj => by simp at hj⟩
  | t :: ts, v :: vs, d :: ds, ps, ho, hi, hr, hv, E, h, R, N => by
    obtain ⟨p, q, ⟨n, h1⟩, h2, _⟩ := hr
    obtain ⟨i, hti⟩ := hi t (List.mem_cons_self ..)
    obtain ⟨E1, l1, a, R1, N1, X1, V1, T1, D1⟩ := read_ok T hok n t _ _ (ho t (List.mem_cons_self ..)) h1 E h R N i hti
    obtain ⟨E2, l2, avs, R2, N2, X2, V2, L2, D2⟩ := read_args T hok ts vs ds q (fun y hy => ho y (List.mem_cons_of_mem _ hy)) (fun y hy => hi y (List.mem_cons_of_mem _ hy)) h2 (fun j t v hj hjv => hv (j + 1) t v (by simpa using hj) (by simpa using hjv)) E1 (h ++ l1) R1 N1
    have hval := value_of_cells T hti (hv 0 t v rfl rfl)
    refine ⟨E2, l1 ++ l2, a :: avs, by rw [← List.append_assoc]; exact R2, by rw [← List.append_assoc]; exact N2, X1.trans X2, ?_, by simp [L2], fun j u b hj hb => ?_⟩
    · simp only [VRc]
      refine ⟨v, vs, rfl, ?_, V2⟩
      rw [hval]
      exact VRel.mono X2 _ _ (VRel.of_cells T1 V1)
    · rw [← List.append_assoc]
      cases j with
      | zero =>
        simp at hj hb; subst hj; subst hb
        exact ⟨n, i, hti, T1, Rd.app l2 _ _ _ D1⟩
      | succ j => exact D2 j u b (by simpa using hj) (by simpa using hb)
  | [], _ :: _, _, _, _, _, hr, _, _, _, _, _ => by simp [DataW.TrodAll] at hr
  | [], [], _ :: _, _, _, _, hr, _, _, _, _, _ => by simp [DataW.TrodAll] at hr
  | _ :: _, [], _, _, _, _, hr, _, _, _, _, _ => by simp [DataW.TrodAll] at hr
  | _ :: _, _ :: _, [], _, _, _, hr, _, _, _, _, _ => by simp [DataW.TrodAll] at hr

theorem below_of_moves {E E' : Gh} {h h' : Heap} {W W' : World} (N : NoOwn E h) (m : Moves E h W E' h' W') : Below W.heap.size W W' :=
  ⟨m.io.os, m.io.tape, m.io.output, m.size, fun k hk => m.keep k hk fun ⟨i, c, hi, ho, _⟩ => N i c hi ho⟩

def E00 : Gh := ⟨0, fun _ => 0, fun _ => 0, fun _ => 0, fun _ => 0, fun _ => false, fun _ => .cell⟩
theorem rel00 (W : World) : RelHeap E00 [] W := ⟨rfl, fun i b hb => by simp at hb, fun i j b c hb => by simp at hb⟩

theorem trodAll_stays (hl : laidOutB P = true) {W W' : World} (hb : Below W.heap.size W W') (sp' : Nat → Bool) : ∀ (ts : List TypeId) (vs : List Value) (ds : List (DataW H)) (ps : List MemPlace), (∀ t ∈ ts, P.readableRec t = true ∧ t < P.types.size) →
    (∀ x ∈ ps, x.block < W.heap.size) → (∀ x ∈ ps, sp' x.block = true) → DataW.TrodAll enc P W 0 (fun _ => true) true ts vs ds ps → DataW.TrodAll enc P W' 0 sp' true ts vs ds ps
  | [], [], [], ps, _, _, _, h => h
  | t :: ts, v :: vs, d :: ds, ps, ht, hlt, hsp, h => by
    obtain ⟨p, q, h1, h2, rfl⟩ := h
    obtain ⟨hr, hrow⟩ := ht t (List.mem_cons_self ..)
    exact ⟨p, q, WideElems.Trod_stays hl hr hrow h1 (fun x hx => hb.same (hlt x (List.mem_append_left _ hx))) (fun x hx => hsp x (List.mem_append_left _ hx)),
      trodAll_stays hl hb sp' ts vs ds q (fun y hy => ht y (List.mem_cons_of_mem _ hy)) (fun x hx => hlt x (List.mem_append_right _ hx)) (fun x hx => hsp x (List.mem_append_right _ hx)) h2, rfl⟩
  | [], _ :: _, _, _, _, _, _, hr => by simp [DataW.TrodAll] at hr
  | [], [], _ :: _, _, _, _, _, hr => by simp [DataW.TrodAll] at hr
  | _ :: _, [], _, _, _, _, _, hr => by simp [DataW.TrodAll] at hr
  | _ :: _, _ :: _, [], _, _, _, _, hr => by simp [DataW.TrodAll] at hr

/-- A law that answers true, whatever it is handed, and leaves everything avs it was. -/
theorem post_true {f : Func} {s : ChangeSpec} {apart : Bool} {W W' : World} {args : Array Value} {ds : List (DataW H)} {before : List MemPlace} {b : Nat} (hl : laidOutB P = true) (hvars : s.vars = [])
    (hread : ∀ t ∈ f.params.toList, P.readableRec t = true ∧ t < P.types.size) (hres : f.resultTypes = #[b]) (hbool : P.underlying b = some .bool)
    (hs : s.fn H ds = { results := [.lit (.bool true)], args := ds })
    (hW : DataW.Whole enc P f.params.toList s.vars apart W args.toList ds [] before) (hb : Below W.heap.size W W') :
    s.post enc P f apart true false false W args (.bool true) W' := by
  have hlt : ∀ p ∈ before, p.block < W.heap.size := fun p hp => hW.lt p hp
  have hold : ∀ p ∈ before, (fun b => decide (b < W.heap.size)) p.block = true := fun p hp => by simpa using hlt p hp
  have hW0 := hW
  obtain ⟨p, q, h1, h2, he, hz, hn⟩ := hW
  rw [hvars] at h2
  have hq : q = [] := by cases q with | nil => rfl | cons _ _ => simp [DataW.TrodVars] at h2
  subst hq
  simp only [List.append_nil] at he
  subst he
  have hds : ds ++ ([] : List (DataW H)) = ds := List.append_nil _
  have hr1 : (Value.bool true).resultList f.resultTypes.size = [.bool true] := by rw [hres]; rfl
  have hrt : ∀ (bb : Nat) (sp : Nat → Bool) (hd : Bool), DataW.TrodAll enc P W' bb sp hd f.resultTypes.toList ((Value.bool true).resultList f.resultTypes.size) (s.fn H (ds ++ [])).results [] := by
    intro bb sp hd
    rw [hr1, hres, hds, hs]
    exact ⟨[], [], ⟨1, by simp [DataW.trod, Value.cells, hbool]⟩, rfl, rfl⟩
  have hargs : ∀ sp : Nat → Bool, (∀ x ∈ before, sp x.block = true) → DataW.TrodAll enc P W' 0 sp true f.params.toList args.toList (s.fn H (ds ++ [])).args before := by
    intro sp hsp
    rw [hds, hs]
    exact trodAll_stays hl hb sp _ _ _ _ hread hlt hsp h1
  have hvs : ∀ sp : Nat → Bool, DataW.TrodVars enc P W' sp s.vars (s.fn H (ds ++ [])).vars [] := by
    intro sp
    rw [hvars, hds, hs]; rfl
  refine ⟨ds, [], before, [], before, [], hW0, hrt _ _ _, hargs _ hold, hvs _, World.keptBut_mono (fun p hp => ⟨hp, Or.inr (.inl hp)⟩) (hb.frame (· ∈ before)), fun h => by cases h⟩
end
end Go.Vab

/-
  From a law's contract to its row.
-/
namespace Go.Vab
open Go Go.RowKit Go.WideShapes Go.ChangeShapes

/-- What a law is handed, avs it was read. -/
def Handed (P : Program) (tt : Nat → Option TI) (h : Heap) (ts : List TypeId) (avs : List AV) : Prop :=
  avs.length = ts.length ∧ ∀ (j : Nat) t a, ts[j]? = some t → avs[j]? = some a → ∃ n i, tt t = some i ∧ hasTy a i.ty = true ∧ Rd P tt h n t a

theorem law_lifted {C : Checked} {tt : Nat → Option TI} {ok : List TypeId} {os : Os} {f : FuncId} {fn : Func} {s : ChangeSpec} {b : Nat} {H : Type} {enc : TypeId × Value → H} (T : TTok C.prog tt) (hok : plainB C.prog tt ok = true)
    (own : ownKnob C.prog.godebug = none) (hl : laidOutB C.prog = true) (started : os.Started) (noInit : C.prog.inits.idxOf? f = none) (hfn : C.prog.funcs[f]? = some fn) (hvars : s.vars = [])
    (hread : (fn.params.toList.all fun t => C.prog.readableRec t && decide (t < C.prog.types.size) && ok.contains t && (tt t).isSome) = true) (hres : fn.resultTypes = #[b]) (hbool : C.prog.underlying b = some .bool)
    (hs : ∀ ds : List (DataW H), ds.length = fn.params.size → s.fn H ds = { results := [.lit (.bool true)], args := ds })
    (witness : ∃ (w : World) (tape : Tape) (i : Input), w.os = os ∧ (w.forCall tape i).Shaped C.prog ∧ i.vars = [] ∧ Input.okWide C.prog (w.forCall tape i) .any w.heap.size f i ∧
      s.pre6 enc C.prog fn [] false (w.forCall tape i).memory i.args ∧ ({ modest := false } : Assume).holds C.prog (lone (Frame.enter C.prog f i.args .normal) [] (w.forCall tape i)))
    (spec : ∀ avs h, Handed C.prog tt h fn.params.toList avs → ∃ h', Spec C.prog f avs h (.bool true) h') :
    ReturnsInHanded {} C os f .any (s.pre6 enc C.prog fn [] false) (s.post enc C.prog fn false true false false) := by
  refine returnsInHanded_of_change own started noInit hfn witness ?_
  intro W base args ds gs before hval hW _ _
  simp only [List.all_eq_true, Bool.and_eq_true, decide_eq_true_eq] at hread
  have hW0 := hW
  obtain ⟨p, q, h1, h2, he, hz, hn⟩ := hW
  have hgs : gs = [] := by
    rw [hvars] at h2
    cases gs with
    | nil => rfl
    | cons _ _ => simp [DataW.TrodVars] at h2
  subst hgs
  obtain ⟨E, l, avs, R, N, X, V, L, D⟩ := read_args T hok fn.params.toList args.toList ds p (fun t ht => (hread t ht).1.2) (fun t ht => Option.isSome_iff_exists.1 (hread t ht).2) h1 (fun j t v hj hv => hval j t v (by simpa using hj) (by simpa using hv)) E00 [] (rel00 W) (fun i b hb => by simp at hb)
  simp only [List.nil_append] at R N D
  obtain ⟨h', hsp⟩ := spec avs l ⟨L, D⟩
  have hlen : ds.length = fn.params.size := by
    have : ∀ (ts : List TypeId) (vs : List Value) (ds : List (DataW H)) (ps : List MemPlace), DataW.TrodAll enc C.prog W 0 (fun _ => true) true ts vs ds ps → ds.length = ts.length := by
      intro ts
      induction ts with
      | nil =>
        intro vs ds ps h
        cases vs <;> cases ds <;> simp [DataW.TrodAll] at h ⊢
      | cons t ts ih =>
        intro vs ds ps h
        cases vs <;> cases ds <;> simp only [DataW.TrodAll] at h
        obtain ⟨_, _, _, h, _⟩ := h
        simp [ih _ _ _ h]
    rw [this _ _ _ _ h1]; simp
  have hc := hsp E W args.toList R V
  simp only [Array.toArray_toList] at hc
  refine hc.mono fun e W' hp => ?_
  obtain ⟨E', x, rfl, hx, m⟩ := hp
  simp only [VRel] at hx
  subst hx
  exact ⟨_, rfl, post_true hl hvars (fun t ht => (hread t ht).1.1) hres hbool (hs ds hlen) hW0 (below_of_moves N m)⟩

end Go.Vab

/-
  Arrays of bytes as functions.
-/
namespace Go.Vab
open Go

def arr (n : Nat) (g : Nat → BitVec 8) : AV := bytes ((List.range n).map g)
def mat (m n : Nat) (g : Nat → Nat → BitVec 8) : AV := .node ((List.range m).map fun i => arr n (g i))
def upd {α : Type} (g : Nat → α) (i : Nat) (x : α) : Nat → α := fun j => if j = i then x else g j

@[simp] theorem upd_same {α : Type} (g : Nat → α) (i : Nat) (x : α) : upd g i x i = x := by simp [upd]
theorem upd_ne {α : Type} (g : Nat → α) {i j : Nat} (x : α) (h : j ≠ i) : upd g i x j = g j := by simp [upd, h]

@[simp] theorem toNat8_lt (x : BitVec 8) : x.toNat < 256 := x.isLt

theorem range_map_getD {α : Type} (n : Nat) (g : Nat → α) (i : Nat) : ((List.range n).map g)[i]? = if i < n then some (g i) else none := by
  rw [List.getElem?_map]
  by_cases h : i < n
  · simp [h]
  · rw [List.getElem?_eq_none (by simpa using h), if_neg h]; rfl

theorem range_map_set {α : Type} (n : Nat) (g : Nat → α) (i : Nat) (x : α) : ((List.range n).map g).set i x = (List.range n).map (upd g i x) := by
  apply List.ext_getElem?
  intro j
  rw [List.getElem?_set, range_map_getD, range_map_getD]
  by_cases h : i = j
  · subst h; simp
  · have h' : ¬ j = i := fun e => h e.symm
    rw [if_neg h]; simp [upd, h']

@[simp] theorem arr_get (n : Nat) (g : Nat → BitVec 8) (i : Nat) : (arr n g).get [i] = if i < n then some (u8 (g i)) else none := by
  unfold arr
  rw [bytes_get, range_map_getD]
  split <;> rfl
@[simp] theorem arr_put (n : Nat) (g : Nat → BitVec 8) (i : Nat) (x : BitVec 8) : (arr n g).put [i] (u8 x) = if i < n then some (arr n (upd g i x)) else none := by
  unfold arr
  rw [bytes_put, range_map_set]
  simp
@[simp] theorem mat_get (m n : Nat) (g : Nat → Nat → BitVec 8) (i : Nat) (r : List Nat) : (mat m n g).get (i :: r) = if i < m then (arr n (g i)).get r else none := by
  unfold mat
  rw [get_node, range_map_getD]
  split <;> rfl
@[simp] theorem mat_put (m n : Nat) (g : Nat → Nat → BitVec 8) (i : Nat) (f : Nat → BitVec 8) : (mat m n g).put [i] (arr n f) = if i < m then some (mat m n (upd g i f)) else none := by
  unfold mat
  rw [put_node, range_map_getD]
  split
  · simp only [bnd_some, put_nil, range_map_set]
    congr 2
    apply List.map_congr_left
    intro j _
    by_cases h : j = i
    · subst h; simp
    · simp [upd, h]
  · rfl
@[simp] theorem mat_put2 (m n : Nat) (g : Nat → Nat → BitVec 8) (i p : Nat) (x : BitVec 8) : (mat m n g).put [i, p] (u8 x) = if i < m then if p < n then some (mat m n (upd g i (upd (g i) p x))) else none else none := by
  unfold mat
  rw [put_node, range_map_getD]
  split
  · simp only [bnd_some, arr_put]
    split
    · simp only [bnd_some, range_map_set]
      congr 2
      apply List.map_congr_left
      intro j _
      by_cases h : j = i
      · subst h; simp
      · simp [upd, h]
    · rfl
  · rfl
theorem arr_congr {n : Nat} {g g' : Nat → BitVec 8} (h : ∀ i, i < n → g i = g' i) : arr n g = arr n g' := by
  unfold arr
  congr 1
  exact List.map_congr_left fun i hi => h i (List.mem_range.1 hi)
theorem arr_inj {n : Nat} {g g' : Nat → BitVec 8} : arr n g = arr n g' ↔ ∀ i, i < n → g i = g' i := by
  constructor
  · intro h i hi
    have := bytes_inj.1 h
    have h2 : ((List.range n).map g)[i]? = ((List.range n).map g')[i]? := by rw [this]
    simpa [range_map_getD, hi] using h2
  · exact arr_congr
theorem mat_congr {m n : Nat} {g g' : Nat → Nat → BitVec 8} (h : ∀ i, i < m → ∀ p, p < n → g i p = g' i p) : mat m n g = mat m n g' := by
  unfold mat
  congr 1
  exact List.map_congr_left fun i hi => arr_congr (h i (List.mem_range.1 hi))
theorem bytes_arr (xs : List (BitVec 8)) {n : Nat} (hn : xs.length = n) : bytes xs = arr n fun i => xs.getD i 0#8 := by
  unfold arr
  congr 1
  apply List.ext_getElem?
  intro i
  rw [range_map_getD]
  by_cases h : i < n
  · rw [if_pos h, List.getD_eq_getElem?_getD, List.getElem?_eq_getElem (by omega)]; rfl
  · rw [if_neg h, List.getElem?_eq_none (by omega)]
@[simp] theorem hasTy_arr (n k : Nat) (g : Nat → BitVec 8) : hasTy (arr n g) (.arr k (.int .u8)) = decide (n = k) := by simp [arr]
@[simp] theorem hasTy_mat (m n : Nat) (g : Nat → Nat → BitVec 8) : hasTy (mat m n g) (.arr m (.arr n (.int .u8))) = true := by
  unfold mat
  simp only [hasTy, List.length_map, List.length_range, decide_true, Bool.true_and]
  rw [hasTyAll_iff]
  intro v hv
  obtain ⟨i, _, rfl⟩ := List.mem_map.1 hv
  simp
@[simp] theorem arr_cut (n : Nat) (g : Nat → BitVec 8) (off k : Nat) : (arr n g).cut off k = if off + k ≤ n then some (arr k fun i => g (off + i)) else none := by
  simp only [arr, bytes, AV.cut, List.length_map, List.length_range]
  split
  · rename_i h
    congr 2
    apply List.ext_getElem?
    intro i
    simp only [List.getElem?_take, List.getElem?_drop, List.getElem?_map]
    by_cases hi : i < k
    · rw [if_pos hi]
      rw [List.getElem?_range (by omega), List.getElem?_range hi]; rfl
    · rw [if_neg hi, List.getElem?_eq_none (l := List.range k) (by simpa using hi)]; rfl
  · rfl
open Classical in
theorem eqv_arr (n : Nat) (g g' : Nat → BitVec 8) : eqv (arr n g) (arr n g') = some (decide (∀ i, i < n → g i = g' i)) := by
  unfold arr
  rw [eqv_bytes _ _ (by simp)]
  congr 1
  rw [decide_eq_decide]
  have := arr_inj (n := n) (g := g) (g' := g')
  rw [← this]
  exact bytes_inj.symm
@[simp] theorem arr_rowLen (n : Nat) (g : Nat → BitVec 8) : (arr n g).rowLen = some n := by simp [arr, bytes, AV.rowLen]
@[simp] theorem mat_rowLen (m n : Nat) (g : Nat → Nat → BitVec 8) : (mat m n g).rowLen = some m := by simp [mat, AV.rowLen]
@[simp] theorem mSliceA_nat (n : Nat) (u : Ty) (b ver : Nat) (path : List Nat) (l q : Nat) : mSliceA (.arr n u) (.ptr b ver path (.arr n u)) (some (nat l)) (some (nat q)) none = if q ≤ n ∧ l ≤ q then some (.slice b ver path u l (q - l) (some (n - l))) else none := by
  simp only [mSliceA, Ty.beq_self, if_true, optBound, mBound, asNat_nat, bnd_some]
  by_cases h : q ≤ n
  · simp only [h, if_true, bnd_some, true_and]
    by_cases h2 : l ≤ q
    · simp [h2]
    · simp [h2]
  · simp [h]
@[simp] theorem mArrayAt_slice (n : Nat) (t : Ty) (i ver : Nat) (path : List Nat) (off len : Nat) (cap : Option Nat) : mArrayAt n t (.slice i ver path t off len cap) = if n ≤ len ∧ 0 < n then some (.win i ver path t off n) else none := by
  simp only [mArrayAt, Ty.beq_self, Bool.true_and, Bool.and_eq_true, decide_eq_true_eq]
@[simp] theorem mLoad_win (n : Nat) (t : Ty) (i ver : Nat) (path : List Nat) (off : Nat) (h : Heap) : mLoad (.arr n t) (.win i ver path t off n) h = bnd (blkAt h i ver) fun b => bnd (b.v.get path) fun r => r.cut off n := by
  simp [mLoad]
@[simp] theorem mNilCheck_ptr (i ver : Nat) (path : List Nat) (t : Ty) : mNilCheck (.ptr i ver path t) = some (.ptr i ver path t) := rfl

end Go.Vab

/-
  Arrays of bytes held against each other.
-/
namespace Go.Vab
open Go

def arrEq (n : Nat) (g g' : Nat → BitVec 8) : Bool := (List.range n).all fun i => decide (g i = g' i)
def matEq (m n : Nat) (g g' : Nat → Nat → BitVec 8) : Bool := (List.range m).all fun i => arrEq n (g i) (g' i)

theorem arrEq_iff {n : Nat} {g g' : Nat → BitVec 8} : arrEq n g g' = true ↔ ∀ i, i < n → g i = g' i := by
  simp [arrEq, List.all_eq_true]
theorem matEq_iff {m n : Nat} {g g' : Nat → Nat → BitVec 8} : matEq m n g g' = true ↔ ∀ i, i < m → ∀ p, p < n → g i p = g' i p := by
  simp [matEq, List.all_eq_true, arrEq_iff]

theorem eqv_arr2 (n : Nat) (g g' : Nat → BitVec 8) : eqv (arr n g) (arr n g') = some (arrEq n g g') := by
  rw [eqv_arr]
  congr 1
  rw [Bool.eq_iff_iff, arrEq_iff]
  simp

theorem eqvs_arr (n : Nat) (g g' : Nat → Nat → BitVec 8) : ∀ l : List Nat, eqvs (l.map fun i => arr n (g i)) (l.map fun i => arr n (g' i)) = some (l.all fun i => arrEq n (g i) (g' i))
  | [] => rfl
  | a :: l => by
    simp only [List.map_cons, eqvs, eqv_arr2, eqvs_arr n g g' l, List.all_cons]

theorem eqv_mat (m n : Nat) (g g' : Nat → Nat → BitVec 8) : eqv (mat m n g) (mat m n g') = some (matEq m n g g') := by
  unfold mat
  simp only [eqv, eqvs_arr]; rfl

@[simp] theorem mEq_arr (n : Nat) (g g' : Nat → BitVec 8) : mEq (.arr n (.int .u8)) .eql (arr n g) (arr n g') = some (.bool (arrEq n g g')) := by
  simp [mEq, eqv_arr2]
@[simp] theorem mNe_arr (n : Nat) (g g' : Nat → BitVec 8) : mEq (.arr n (.int .u8)) .neq (arr n g) (arr n g') = some (.bool (!arrEq n g g')) := by
  simp [mEq, eqv_arr2]
@[simp] theorem mEq_mat (m n : Nat) (g g' : Nat → Nat → BitVec 8) : mEq (.arr m (.arr n (.int .u8))) .eql (mat m n g) (mat m n g') = some (.bool (matEq m n g g')) := by
  simp [mEq, eqv_mat]
@[simp] theorem gdo_bool (b want : Bool) (m : Option (AV × Heap)) (h : Heap) : gdo (.bool b) want m h = if b = want then m else some (.undef, h) := rfl
@[simp] theorem gdo_undef (want : Bool) (m : Option (AV × Heap)) (h : Heap) : gdo .undef want m h = some (.undef, h) := rfl
@[simp] theorem mPick_bool (b : Bool) (x y : AV) : mPick (.bool b) x y = some (if b = true then x else y) := rfl
@[simp] theorem mBinB_eql (a b : Bool) : mBinB .eql (.bool a) (.bool b) = some (.bool (a == b)) := rfl
@[simp] theorem mBinB_neq (a b : Bool) : mBinB .neq (.bool a) (.bool b) = some (.bool (!(a == b))) := rfl

end Go.Vab

/-
  Running the evaluator: answers with a property, step by step; the temporaries by what is known of them alone.
-/
namespace Go.Vab
open Go

/-- It answers, and of the answer this is so. -/
def Evs {α : Type} (m : Option α) (Q : α → Prop) : Prop := ∃ r, m = some r ∧ Q r

section
variable {α β : Type} {m m' : Option α} {Q Q' : α → Prop}
theorem Evs.run (h : m = m') (h' : Evs m' Q) : Evs m Q := by rw [h]; exact h'
theorem Evs.ret {r : α} (h : Q r) : Evs (some r) Q := ⟨r, rfl, h⟩
theorem Evs.ret_of {r : α} (h : m = some r) (hq : Q r) : Evs m Q := ⟨r, h, hq⟩
theorem Evs.mono (h : Evs m Q) (hm : ∀ r, Q r → Q' r) : Evs m Q' := let ⟨r, h1, h2⟩ := h; ⟨r, h1, hm r h2⟩
theorem Evs.bnd {f : α → Option β} {R : β → Prop} (h : Evs m Q) (hf : ∀ r, Q r → Evs (f r) R) : Evs (Go.Vab.bnd m f) R := by
  obtain ⟨r, rfl, hq⟩ := h
  exact hf r hq
theorem Evs.step {f : α → Option β} {R : β → Prop} {a : α} (h : m = some a) (hf : Evs (f a) R) : Evs (Go.Vab.bnd m f) R := by
  subst h; exact hf
theorem Evs.assoc {γ : Type} {f : α → Option β} {g : β → Option γ} {R : γ → Prop} (h : Evs (Go.Vab.bnd m fun r => Go.Vab.bnd (f r) g) R) : Evs (Go.Vab.bnd (Go.Vab.bnd m f) g) R := by
  cases m <;> exact h
theorem Evs.some_bnd {f : α → Option β} {R : β → Prop} {a : α} (h : Evs (f a) R) : Evs (Go.Vab.bnd (some a) f) R := h
theorem Evs.cndT {v : AV} (h : v = .bool true) (h' : Evs m Q) : Evs (cnd v m m') Q := by subst h; exact h'
theorem Evs.cndF {v : AV} (h : v = .bool false) (h' : Evs m' Q) : Evs (cnd v m m') Q := by subst h; exact h'
theorem Evs.bcndT {f : α → Option β} {R : β → Prop} {v : AV} (h : v = .bool true) (h' : Evs (Go.Vab.bnd m f) R) : Evs (Go.Vab.bnd (cnd v m m') f) R := by subst h; exact h'
theorem Evs.bcndF {f : α → Option β} {R : β → Prop} {v : AV} (h : v = .bool false) (h' : Evs (Go.Vab.bnd m' f) R) : Evs (Go.Vab.bnd (cnd v m m') f) R := by subst h; exact h'
theorem Evs.eq {r : α} (h : Evs m (fun x => x = r)) : m = some r := by
  obtain ⟨x, h1, rfl⟩ := h; exact h1
theorem Evs.get (h : Evs m Q) : ∃ r, m = some r ∧ Q r := h
end


@[simp] theorem inBlk_same (id : Nat) (s : St) : inBlk id (.exit id, s) = (.nrm, s) := by simp [inBlk]
theorem inBlk_other {id j : Nat} (s : St) (h : j ≠ id) : inBlk id (.exit j, s) = (.exit j, s) := by simp [inBlk, h]

attribute [simp] bnd_assoc

theorem Evs.loop {f : St → Option (Ex × St)} {Q : Ex × St → Prop} (I : Nat → St → Prop) (step : ∀ n s, I n s → Evs (f s) fun r => (r.1 = .nrm ∧ ∃ m, m < n ∧ I m r.2) ∨ (r.1 ≠ .nrm ∧ Q r)) {n : Nat} {s : St} (h0 : I n s) : Evs (evLoop f s) Q :=
  evLoop_rule I step n s h0
theorem Evs.up {f : St → Option (Ex × St)} {Q : Ex × St → Prop} (N : Nat) (I : Nat → St → Prop) (step : ∀ i s, i < N → I i s → Evs (f s) fun r => r.1 = .nrm ∧ I (i + 1) r.2)
    (last : ∀ s, I N s → Evs (f s) fun r => r.1 ≠ .nrm ∧ Q r) {s : St} (h0 : I 0 s) : Evs (evLoop f s) Q :=
  evLoop_up N I step last h0
/-- A loop that counts up, and may be left ahead of its end. -/
theorem Evs.upto {f : St → Option (Ex × St)} {Q : Ex × St → Prop} (N : Nat) (I : Nat → St → Prop) (step : ∀ i s, i < N → I i s → Evs (f s) fun r => (r.1 = .nrm ∧ I (i + 1) r.2) ∨ (r.1 ≠ .nrm ∧ Q r))
    (last : ∀ s, I N s → Evs (f s) fun r => r.1 ≠ .nrm ∧ Q r) {s : St} (h0 : I 0 s) : Evs (evLoop f s) Q := by
  refine evLoop_rule (fun n s => ∃ i, i + n = N ∧ I i s) (fun n s ⟨i, hi, hs⟩ => ?_) N s ⟨0, by omega, h0⟩
  by_cases h : i < N
  · obtain ⟨r, h1, h2⟩ := step i s h hs
    exact ⟨r, h1, h2.imp (fun ⟨h3, h4⟩ => ⟨h3, n - 1, by omega, i + 1, by omega, h4⟩) id⟩
  · have : i = N := by omega
    subst this
    obtain ⟨r, h1, h2⟩ := last s hs
    exact ⟨r, h1, .inr h2⟩

@[simp] theorem env_get_put (env : Env) (t s : Nat) (v : AV) : (env.put t v).get s = if s = t then v else env.get s := get_put env t v s

section
variable {α : Type} {a b : Nat} (x y : α)
@[simp] theorem ite_lt (h : a < b) : (if a < b then x else y) = x := if_pos h
@[simp] theorem ite_nlt (h : ¬ a < b) : (if a < b then x else y) = y := if_neg h
@[simp] theorem ite_le (h : a ≤ b) : (if a ≤ b then x else y) = x := if_pos h
@[simp] theorem ite_nle (h : ¬ a ≤ b) : (if a ≤ b then x else y) = y := if_neg h
@[simp] theorem ite_eq (h : a = b) : (if a = b then x else y) = x := if_pos h
@[simp] theorem ite_neq (h : ¬ a = b) : (if a = b then x else y) = y := if_neg h
end
/-- These temporaries are as they were. -/
def Same (l : List Nat) (env env' : Env) : Prop := ∀ t, l.contains t = true → env'.get t = env.get t
theorem Same.refl (l : List Nat) (env : Env) : Same l env env := fun _ _ => rfl
theorem Same.put {l : List Nat} {env env' : Env} {t : Nat} {v : AV} (h : l.contains t = false) (hs : Same l env env') : Same l env (env'.put t v) := fun u hu => by
  rw [env_get_put, if_neg]
  · exact hs u hu
  · rintro rfl; rw [h] at hu; cases hu
theorem Same.get {l : List Nat} {env env' : Env} (hs : Same l env env') (t : Nat) (h : l.contains t = true) : env'.get t = env.get t := hs t h
theorem Same.trans {l : List Nat} {a b c : Env} (h : Same l a b) (h' : Same l b c) : Same l a c := fun t ht => (h' t ht).trans (h t ht)
theorem Same.sub {l m : List Nat} {a b : Env} (h : Same l a b) (hm : (m.all fun t => l.contains t) = true) : Same m a b := fun t ht => h t (by
  rw [List.all_eq_true] at hm
  exact hm t (by simpa using ht))

section
variable (i ver : Nat) (path : List Nat) (h : Heap)
abbrev stR (i ver : Nat) (path : List Nat) (x : AV) (h : Heap) : Option (AV × Heap) := bnd (blkAt h i ver) fun b => if b.mode = .ro then none else bnd (b.v.put path x) fun v' => some (.undef, h.set i { b with v := v' })
attribute [simp] stR
@[simp] theorem stU_u8 (x : BitVec 8) : stU (.int .u8) (.ptr i ver path (.int .u8)) (u8 x) h = stR i ver path (u8 x) h := stU_ptr _ _ _ _ _ _ (by simp)
@[simp] theorem stU_u64 (x : BitVec 64) : stU (.int .u64) (.ptr i ver path (.int .u64)) (u64 x) h = stR i ver path (u64 x) h := stU_ptr _ _ _ _ _ _ (by simp)
@[simp] theorem stU_nat (x : Nat) : stU (.int .i64) (.ptr i ver path (.int .i64)) (nat x) h = stR i ver path (nat x) h := stU_ptr _ _ _ _ _ _ (by simp)
@[simp] theorem stU_arr (n : Nat) (g : Nat → BitVec 8) : stU (.arr n (.int .u8)) (.ptr i ver path (.arr n (.int .u8))) (arr n g) h = stR i ver path (arr n g) h := stU_ptr _ _ _ _ _ _ (by simp)
@[simp] theorem stU_mat (m n : Nat) (g : Nat → Nat → BitVec 8) : stU (.arr m (.arr n (.int .u8))) (.ptr i ver path (.arr m (.arr n (.int .u8)))) (mat m n g) h = stR i ver path (mat m n g) h := stU_ptr _ _ _ _ _ _ (by simp)
@[simp] theorem mNew_u8 (x : BitVec 8) : mNew (.int .u8) (u8 x) h = some (.ptr h.length 0 [] (.int .u8), h ++ [⟨u8 x, 0, .own⟩]) := mNew_ok _ _ _ (by simp)
@[simp] theorem mNew_nat (x : Nat) : mNew (.int .i64) (nat x) h = some (.ptr h.length 0 [] (.int .i64), h ++ [⟨nat x, 0, .own⟩]) := mNew_ok _ _ _ (by simp)
@[simp] theorem mNew_arr (n : Nat) (g : Nat → BitVec 8) : mNew (.arr n (.int .u8)) (arr n g) h = some (.ptr h.length 0 [] (.arr n (.int .u8)), h ++ [⟨arr n g, 0, .own⟩]) := mNew_ok _ _ _ (by simp)
@[simp] theorem mNew_mat (m n : Nat) (g : Nat → Nat → BitVec 8) : mNew (.arr m (.arr n (.int .u8))) (mat m n g) h = some (.ptr h.length 0 [] (.arr m (.arr n (.int .u8))), h ++ [⟨mat m n g, 0, .own⟩]) := mNew_ok _ _ _ (by simp)
end

section
variable {α : Type} {a b : Nat} (x y : Option α)
@[simp high] theorem cnd_lt (h : a < b) : cnd (.bool (decide (a < b))) x y = x := by rw [decide_eq_true h]; rfl
@[simp high] theorem cnd_nlt (h : ¬ a < b) : cnd (.bool (decide (a < b))) x y = y := by rw [decide_eq_false h]; rfl
@[simp high] theorem cnd_le (h : a ≤ b) : cnd (.bool (decide (a ≤ b))) x y = x := by rw [decide_eq_true h]; rfl
@[simp high] theorem cnd_nle (h : ¬ a ≤ b) : cnd (.bool (decide (a ≤ b))) x y = y := by rw [decide_eq_false h]; rfl
@[simp high] theorem cnd_eq (h : a = b) : cnd (.bool (decide (a = b))) x y = x := by rw [decide_eq_true h]; rfl
@[simp high] theorem cnd_neq (h : ¬ a = b) : cnd (.bool (decide (a = b))) x y = y := by rw [decide_eq_false h]; rfl
@[simp high] theorem cnd_ne (h : a = b) : cnd (.bool !decide (a = b)) x y = y := by rw [decide_eq_true h]; rfl
@[simp high] theorem cnd_nne (h : ¬ a = b) : cnd (.bool !decide (a = b)) x y = x := by rw [decide_eq_false h]; rfl
end

@[simp] theorem u8_rem2 (x : BitVec 8) : mBin .rem (u8 x) (u8 2#8) = some (u8 (x % 2#8)) := u8_rem _ _ (by decide)

attribute [simp] nat_add nat_sub nat_mul nat_quo nat_rem nat_shl nat_shr_nat nat_shr_u64 nat_and nat_xor

end Go.Vab

/-
  Maps: sets of handles (keys of 32 bytes, each at the value one).
-/
namespace Go.Vab
open Go

/-- What a map's type must be: keys of 32 bytes, whole numbers as elements. -/
def MapT (P : Program) (t : Nat) : Prop := ∃ k e, P.underlying t = some (.map k e) ∧ Maps.Keyed P k ∧ (∀ w, (zeroValue e).run P w = .ok (.int .i64 0) w) ∧ ∀ ks, okKey ks = true → ∃ l, keyOf P k (keyVal ks) = some l

open Classical in
noncomputable def ifT {α : Type} (P : Program) (t : Nat) (x : Option α) : Option α := if MapT P t then x else none
theorem ifT_pos {α : Type} {P : Program} {t : Nat} (h : MapT P t) (x : Option α) : ifT P t x = x := if_pos h
theorem ifT_some {α : Type} {P : Program} {t : Nat} {x : Option α} {y : α} (h : ifT P t x = some y) : MapT P t ∧ x = some y := by
  unfold ifT at h
  split at h
  · exact ⟨by assumption, h⟩
  · cases h

def hasKey (ks : List Int) (vs : List AV) : Bool := vs.any fun v => match v with | .ints .u8 xs => decide (xs = ks) | _ => false
def mMkMap (h : Heap) : Option (AV × Heap) := some (.map h.length, h ++ [⟨.node [], 0, .mp⟩])
def mapAt (h : Heap) (i : Nat) : Option (List AV) := match h[i]? with
  | some b => if b.mode = .mp ∧ b.ver = 0 then match b.v with | .node vs => some vs | _ => none else none
  | none => none
def mLook (m k : AV) (h : Heap) : Option AV := match m, k with
  | .map i, .ints .u8 ks => if okKey ks = true then bnd (mapAt h i) fun vs => some (.int .i64 (if hasKey ks vs = true then 1 else 0)) else none
  | _, _ => none
def mUpd (m k x : AV) (h : Heap) : Option (AV × Heap) := match m, k, x with
  | .map i, .ints .u8 ks, .int .i64 n => if okKey ks = true ∧ n = 1 then bnd (mapAt h i) fun vs => some (.undef, h.set i ⟨.node (if hasKey ks vs = true then vs else vs ++ [.ints .u8 ks]), 0, .mp⟩) else none
  | _, _, _ => none

theorem keyVal_inj {a b : List Int} (h : keyVal a = keyVal b) : a = b := by
  unfold keyVal at h
  simp only [Value.agg.injEq] at h
  have := congrArg Array.toList h
  simp only at this
  clear h
  induction a generalizing b with
  | nil => cases b with
    | nil => rfl
    | cons y b => simp at this
  | cons x a ih => cases b with
    | nil => simp at this
    | cons y b =>
      simp only [List.map_cons, List.cons.injEq, Value.int.injEq, true_and] at this
      rw [this.1, ih this.2]

theorem mapAt_spec {h : Heap} {i : Nat} {vs : List AV} (hm : mapAt h i = some vs) : h[i]? = some ⟨.node vs, 0, .mp⟩ := by
  unfold mapAt at hm
  split at hm
  · rename_i b hb
    split at hm
    · rename_i hc
      split at hm
      · rename_i us hv
        cases hm
        rw [hb]
        obtain ⟨v, ver, mode⟩ := b
        simp only at hv hc
        obtain ⟨rfl, rfl⟩ := hc
        rw [hv]
      · cases hm
    · cases hm
  · cases hm
@[simp] theorem mapAt_of {h : Heap} {i : Nat} {vs : List AV} (hi : h[i]? = some ⟨.node vs, 0, .mp⟩) : mapAt h i = some vs := by
  unfold mapAt; rw [hi]; simp

theorem hasKey_map (ks : List Int) (l : List (List Int)) : hasKey ks (l.map (AV.ints .u8)) = decide (ks ∈ l) := by
  unfold hasKey
  induction l with
  | nil => simp
  | cons a l ih =>
    rw [List.map_cons, List.any_cons, ih]
    rw [Bool.eq_iff_iff]
    simp only [Bool.or_eq_true, decide_eq_true_eq, List.mem_cons]
    constructor
    · rintro (h | h)
      · exact .inl h.symm
      · exact .inr h
    · rintro (h | h)
      · exact .inl h.symm
      · exact .inr h

section
variable {P : Program} {E : Gh} {h : Heap} {w : World} (R : RelHeap E h w)
include R

theorem look_sound {t : Nat} (T : MapT P t) {m k : AV} {xm xk : Value} (hm : VRel E m xm) (hk : VRel E k xk) {v : AV} (he : mLook m k h = some v) : ∃ x, (Instr.lookup t xm xk false).run P w = .ok x w ∧ VRel E v x := by
  obtain ⟨kt, e, ht, K, hz, hko⟩ := T
  unfold mLook at he
  split at he
  · rename_i i ks
    split at he
    · rename_i hok
      obtain ⟨vs, h1, h2⟩ := bnd_eq_some.1 he
      cases h2
      have hb := mapAt_spec h1
      have B := R.at_ i _ hb
      simp only [VRel] at hm hk
      obtain ⟨a, rfl, hi, ha⟩ := hm
      have ha := ha B.ver.symm
      subst ha
      obtain ⟨ls, es, clock, e1, e2, e3, e4, e5, e6⟩ := B.mp rfl
      injection e1 with e1
      subst e1
      rw [hasKey_map]
      obtain ⟨kl, hkey⟩ := hko ks hok
      have hall : ∀ x ∈ es.toList, ∃ k ∈ ls, x.key = keyVal k ∧ x.val = .int .i64 1 := by
        intro x hx
        have : (x.key, x.val) ∈ es.toList.map fun e => (e.key, e.val) := List.mem_map.2 ⟨x, hx, rfl⟩
        rw [e4] at this
        obtain ⟨k, hk, e⟩ := List.mem_map.1 this
        injection e with g1 g2
        exact ⟨k, hk, g1.symm, g2.symm⟩
      have hexk : ∀ x ∈ es.toList, ∃ l, keyOf P kt x.key = some l := fun x hx => by
        obtain ⟨k, g1, g2, _⟩ := hall x hx
        rw [g2]; exact hko k (e3 k g1)
      have hk : xk = keyVal ks := hk
      subst hk
      rcases K.find w hkey es.toList hexk with ⟨g1, g2⟩ | ⟨j, e0, g1, g2, g3⟩
      · have hn : ¬ ks ∈ ls := fun hin => by
          have : (keyVal ks, Value.int .i64 1) ∈ es.toList.map fun e => (e.key, e.val) := by rw [e4]; exact List.mem_map.2 ⟨ks, hin, rfl⟩
          obtain ⟨x, hx, e⟩ := List.mem_map.1 this
          injection e with q1 q2
          exact g2 x hx q1
        refine ⟨.int .i64 0, by simp [Instr.lookup, run_underlying ht, MapKept.run_getObj_map e2, K.check w _ hkey, g1, hz, Result.andThen], ?_⟩
        simp [hn, VRel]
      · have hm0 : e0 ∈ es.toList := List.mem_of_getElem? g2
        obtain ⟨k, q1, q2, q3⟩ := hall e0 hm0
        have hin : ks ∈ ls := by
          rw [g3] at q2
          rw [keyVal_inj q2]; exact q1
        refine ⟨.int .i64 1, by simp [Instr.lookup, run_underlying ht, MapKept.run_getObj_map e2, K.check w _ hkey, g1, q3, Result.andThen], ?_⟩
        simp [hin, VRel]
    · cases he
  · cases he

theorem moves_map {w' : World} {i : Nat} {vs : List AV} (hi : h[i]? = some ⟨.node vs, 0, .mp⟩) {us : List AV} {n : Nat} (hty : hasTy (.node us) (.arr n (.arr 32 (.int .u8))) = true) (hat : MapAt E w' i (.node us))
    (hsize : w'.heap.size = w.heap.size) (hoth : ∀ k, k ≠ E.blk i → w'.heap[k]? = w.heap[k]?) (hio : Io w w') : Moves E h w E (h.set i ⟨.node us, 0, .mp⟩) w' := by
  have hil : i < h.length := (List.getElem?_eq_some_iff.1 hi).1
  have hget : ∀ (j : Nat) (c : Blk), (h.set i ⟨.node us, 0, .mp⟩)[j]? = some c → (j = i ∧ c = ⟨.node us, 0, .mp⟩) ∨ (j ≠ i ∧ h[j]? = some c) := by
    intro j c hj
    by_cases e : j = i
    · subst e; rw [List.getElem?_set_self hil] at hj; simp at hj; exact .inl ⟨rfl, hj.symm⟩
    · rw [List.getElem?_set_ne (fun x => e x.symm)] at hj; exact .inr ⟨e, hj⟩
  have hback : ∀ (j : Nat) (c : Blk), (h.set i ⟨.node us, 0, .mp⟩)[j]? = some c → ∃ c' : Blk, h[j]? = some c' ∧ c'.mode = c.mode := by
    intro j c hj
    rcases hget j c hj with ⟨rfl, rfl⟩ | ⟨_, hj⟩
    · exact ⟨_, hi, rfl⟩
    · exact ⟨c, hj, rfl⟩
  have hmine : Own E i ⟨.node vs, 0, .mp⟩ := ⟨by simp, placed_mp rfl⟩
  have hown : ∀ x, OwnIn E (h.set i ⟨.node us, 0, .mp⟩) x → OwnIn E h x := by
    rintro x ⟨j, c, hj, ⟨ho, hp⟩, hx⟩
    obtain ⟨c', hc', hm⟩ := hback j c hj
    exact ⟨j, c', hc', ⟨by rw [hm]; exact ho, by unfold Placed at *; rw [hm]; exact hp⟩, hx⟩
  refine ⟨Ext.refl E, ⟨by rw [List.length_set]; exact R.n, fun j c hj => ?_, fun j k c d hj hk hP hO e => ?_⟩, by omega, fun x hx hn => hoth x (fun e => hn ⟨i, _, hi, hmine, e.symm⟩), fun x hx => .inl (hown x hx), hio⟩
  · rcases hget j c hj with ⟨rfl, rfl⟩ | ⟨hne, hj⟩
    · obtain ⟨ls, es, clock, e1, e2, e3, e4, e5, e6⟩ := hat
      refine ⟨(R.at_ j _ hi).ver, ?_, fun _ => ⟨ls, es, clock, e1, e2, e3, e4, e5, e6⟩, fun hm => absurd rfl hm, fun hm => by cases hm⟩
      unfold Fits
      rw [if_pos e6]
      exact ⟨_, _, e5, hty⟩
    · have B := R.at_ j c hj
      have hsame : Placed E j c → w'.heap[E.blk j]? = w.heap[E.blk j]? := fun hP => hoth (E.blk j) (fun e => hne (R.inj j i c _ hj hi hP hmine e))
      refine ⟨B.ver, B.fits, fun hm => (B.mp hm).same (hsame (placed_mp hm)), fun hm => ?_, B.grow⟩
      obtain ⟨l, hl1, hl2, hl3⟩ := B.body hm
      refine ⟨l, hl1, fun hP => ?_, hl3⟩
      obtain ⟨arr, te, fr, pre, post, h1, h2⟩ := hl2 hP
      refine ⟨arr, te, fr, pre, post, ?_, h2⟩
      rw [hsame hP]; exact h1
  · obtain ⟨c', hc', hm⟩ := hback j c hj
    obtain ⟨d', hd', hn⟩ := hback k d hk
    exact R.inj j k c' d' hc' hd' (by unfold Placed at *; rw [hm]; exact hP) ⟨by rw [hn]; exact hO.1, by have := hO.2; unfold Placed at *; rw [hn]; exact this⟩ e

theorem upd_sound {t : Nat} (T : MapT P t) {m k x : AV} {xm xk xx : Value} (hm : VRel E m xm) (hk : VRel E k xk) (hx : VRel E x xx) {r : AV × Heap} (he : mUpd m k x h = some r) :
    r.1 = .undef ∧ ∃ w', (Instr.mapUpdate t xm xk xx).run P w = .ok () w' ∧ Moves E h w E r.2 w' := by
  obtain ⟨kt, e, ht, K, hz, hko⟩ := T
  unfold mUpd at he
  split at he
  · rename_i i ks n
    split at he
    · rename_i hok
      obtain ⟨hok, rfl⟩ := hok
      obtain ⟨vs, h1, h2⟩ := bnd_eq_some.1 he
      cases h2
      refine ⟨rfl, ?_⟩
      have hb := mapAt_spec h1
      have B := R.at_ i _ hb
      simp only [VRel] at hm hk hx
      obtain ⟨a, rfl, hi, ha⟩ := hm
      have ha := ha B.ver.symm
      subst ha
      obtain ⟨ls, es, clock, e1, e2, e3, e4, e5, e6⟩ := B.mp rfl
      injection e1 with e1
      subst e1
      rw [hasKey_map]
      obtain ⟨kl, hkey⟩ := hko ks hok
      have hall : ∀ x ∈ es.toList, ∃ k ∈ ls, x.key = keyVal k ∧ x.val = .int .i64 1 := by
        intro x hx
        have : (x.key, x.val) ∈ es.toList.map fun e => (e.key, e.val) := List.mem_map.2 ⟨x, hx, rfl⟩
        rw [e4] at this
        obtain ⟨k, hk, e⟩ := List.mem_map.1 this
        injection e with g1 g2
        exact ⟨k, hk, g1.symm, g2.symm⟩
      have hexk : ∀ x ∈ es.toList, ∃ l, keyOf P kt x.key = some l := fun x hx => by
        obtain ⟨k, g1, g2, _⟩ := hall x hx
        rw [g2]; exact hko k (e3 k g1)
      have hk : xk = keyVal ks := hk
      subst hk
      subst hx
      have hlt : E.blk i < w.heap.size := (Array.getElem?_eq_some_iff.1 e2).1
      have hset : ∀ (o : Obj) (k : Nat), k ≠ E.blk i → (w.heap.setIfInBounds (E.blk i) o)[k]? = w.heap[k]? := fun o k hk => Array.getElem?_setIfInBounds_ne (fun q => hk q.symm)
      have hself : ∀ (o : Obj), (w.heap.setIfInBounds (E.blk i) o)[E.blk i]? = some o := fun o => by rw [Array.getElem?_setIfInBounds_self, if_pos hlt]
      have hrow : ∀ l : List (List Int), (∀ k ∈ l, okKey k = true) → hasTy (.node (l.map (AV.ints .u8))) (.arr l.length (.arr 32 (.int .u8))) = true := by
        intro l hl
        simp only [hasTy, List.length_map, decide_true, Bool.true_and, hasTyAll_iff]
        intro v hv
        obtain ⟨k, hk, rfl⟩ := List.mem_map.1 hv
        have := hl k hk
        simp only [okKey, Bool.and_eq_true, decide_eq_true_eq] at this
        simp [hasTy, this.1]
      rcases K.find w hkey es.toList hexk with ⟨g1, g2⟩ | ⟨j, e0, g1, g2, g3⟩
      · have hn : ¬ ks ∈ ls := fun hin => by
          have : (keyVal ks, Value.int .i64 1) ∈ es.toList.map fun e => (e.key, e.val) := by rw [e4]; exact List.mem_map.2 ⟨ks, hin, rfl⟩
          obtain ⟨x, hx, e⟩ := List.mem_map.1 this
          injection e with q1 q2
          exact g2 x hx q1
        refine ⟨{ w with heap := w.heap.setIfInBounds (E.blk i) (.map (es.push ⟨keyVal ks, .int .i64 1, clock⟩) (clock + 1)) },
          by simp [Instr.mapUpdate, run_underlying ht, MapKept.run_getObj_map e2, K.check w false hkey, g1, MapKept.run_setObj_map _ e2, Result.andThen], ?_⟩
        simp only [hn, decide_false, Bool.false_eq_true, if_false]
        have hnew : ∀ k ∈ ls ++ [ks], okKey k = true := fun k hk => by
          rcases List.mem_append.1 hk with hk | hk
          · exact e3 k hk
          · rw [List.mem_singleton] at hk; rw [hk]; exact hok
        have emap : ls.map (AV.ints .u8) ++ [AV.ints .u8 ks] = (ls ++ [ks]).map (AV.ints .u8) := by simp
        rw [emap]
        refine moves_map R hb (hrow _ hnew) ⟨ls ++ [ks], _, clock + 1, rfl, hself _, hnew, ?_, e5, e6⟩ (by simp) (fun k hk => hset _ k hk) ⟨rfl, rfl, rfl⟩
        simp [e4]
      · have hm0 : e0 ∈ es.toList := List.mem_of_getElem? g2
        obtain ⟨k, q1, q2, q3⟩ := hall e0 hm0
        have hin : ks ∈ ls := by
          rw [g3] at q2
          rw [keyVal_inj q2]; exact q1
        have hj : es[j]? = some e0 := by simpa using g2
        refine ⟨{ w with heap := w.heap.setIfInBounds (E.blk i) (.map (es.modify j (fun e' => { e' with key := keyVal ks, val := .int .i64 1 })) clock) },
          by simp [Instr.mapUpdate, run_underlying ht, MapKept.run_getObj_map e2, K.check w false hkey, g1, hj, g3, K.stays w hkey, MapKept.run_setObj_map _ e2, Result.andThen], ?_⟩
        simp only [hin, decide_true, if_true]
        refine moves_map R hb (hrow _ e3) ⟨ls, _, clock, rfl, hself _, e3, ?_, e5, e6⟩ (by simp) (fun k hk => hset _ k hk) ⟨rfl, rfl, rfl⟩
        rw [← e4]
        have hlist : (es.modify j (fun e' => { e' with key := keyVal ks, val := .int .i64 1 })).toList = es.toList.set j { e0 with key := keyVal ks, val := .int .i64 1 } := by
          rw [Array.toList_modify, ChangeMaps.modify_eq_set _ _ _ _ g2]
        rw [hlist, List.map_set]
        apply List.ext_getElem?
        intro q
        rw [List.getElem?_set]
        split
        · rename_i hq
          subst hq
          have hjl : j < es.toList.length := (List.getElem?_eq_some_iff.1 g2).1
          rw [if_pos (by simpa using hjl), List.getElem?_map, g2]
          simp [g3, q3]
        · rfl
    · cases he
  · cases he

theorem mkMap_sound {r : AV × Heap} (he : mMkMap h = some r) : ∃ E', VRel E' r.1 (.map (some w.heap.size)) ∧ Moves E h w E' r.2 (w.alloc (.map #[] 0)) := by
  cases he
  have hX := Gh.push_ext E w.heap.size 0 0 true (.arr 0 (.arr 32 (.int .u8)))
  refine ⟨E.push w.heap.size 0 0 true (.arr 0 (.arr 32 (.int .u8))), ?_, ?_⟩
  · simp only [VRel]
    exact ⟨_, rfl, by simp [Gh.push, R.n], fun _ => by simp [Gh.push, R.n]⟩
  generalize hE : E.push w.heap.size 0 0 true (.arr 0 (.arr 32 (.int .u8))) = E' at hX ⊢
  have hheap : (w.alloc (.map #[] 0)).heap = w.heap.push (.map #[] 0) := rfl
  have hold : ∀ k, k < w.heap.size → (w.alloc (.map #[] 0)).heap[k]? = w.heap[k]? := by
    intro k hk
    rw [hheap, Array.getElem?_push, if_neg (by omega)]
  have hget : ∀ (j : Nat) (c : Blk), (h ++ [⟨.node [], 0, .mp⟩])[j]? = some c → (j = E.n ∧ c = ⟨.node [], 0, .mp⟩) ∨ (j < E.n ∧ h[j]? = some c) := by
    intro j c hj
    rw [R.n]
    by_cases e : j < h.length
    · rw [List.getElem?_append_left e] at hj; exact .inr ⟨e, hj⟩
    · rw [List.getElem?_append_right (by omega)] at hj
      have : j - h.length = 0 := by
        have := (List.getElem?_eq_some_iff.1 hj).1
        simp at this; omega
      rw [this] at hj; simp at hj
      exact .inl ⟨by omega, hj.symm⟩
  have hroom : ∀ j, j < E.n → E'.room j = E.room j := fun j hj => by rw [← hE]; simp [Gh.push, Nat.ne_of_lt hj]
  have hblk : ∀ j, j < E.n → E'.blk j = E.blk j := fun j hj => by rw [← hE]; simp [Gh.push, Nat.ne_of_lt hj]
  have hbn : E'.blk E.n = w.heap.size := by rw [← hE]; simp [Gh.push]
  have hty : E'.ty E.n = .arr 0 (.arr 32 (.int .u8)) := by rw [← hE]; simp [Gh.push]
  have hmany : E'.many E.n = true := by rw [← hE]; simp [Gh.push]
  have hplaced : ∀ (j : Nat) (c : Blk), j < E.n → (Placed E' j c ↔ Placed E j c) := fun j c hj => by unfold Placed; rw [hroom j hj]
  refine ⟨hX, ⟨by rw [← hE]; simp [Gh.push, R.n], fun j c hj => ?_, fun j k c d hj hk hP hO e => ?_⟩, by rw [hheap]; simp, fun x hx _ => hold x hx, fun x hx => ?_, ⟨rfl, rfl, rfl⟩⟩
  · rcases hget j c hj with ⟨rfl, rfl⟩ | ⟨hjn, hj⟩
    · refine ⟨by rw [← hE]; simp [Gh.push], ?_, fun _ => ⟨[], #[], 0, rfl, ?_, by simp, by simp, hty, hmany⟩, fun hm => absurd rfl hm, fun hm => by cases hm⟩
      · unfold Fits
        rw [if_pos hmany]
        exact ⟨0, _, hty, by simp [hasTy, hasTyAll]⟩
      · rw [hbn, hheap]; simp
    · have B := R.at_ j c hj
      have hne := Nat.ne_of_lt hjn
      refine ⟨by rw [← hE]; simp [Gh.push, hne]; exact B.ver, ?_, fun hm => (B.mp hm).ghost (by rw [hblk j hjn, hold _ (placed_lt R hj (placed_mp hm))]) (by rw [← hE]; simp [Gh.push, hne]) (by rw [← hE]; simp [Gh.push, hne]), fun hmm => ?_, fun hm => ?_⟩
      · have := B.fits; rw [← hE]; unfold Fits at *; simpa [Gh.push, hne] using this
      · obtain ⟨l1, hl1, hl2, hl3⟩ := B.body hmm
        refine ⟨l1, VRl.mono hX _ _ hl1, fun hP => ?_, fun hP => hl3 (fun h => hP ((hplaced j c hjn).2 h))⟩
        have hP' := (hplaced j c hjn).1 hP
        obtain ⟨arr, te, fr, pre, post, h1, h2, h3, h4⟩ := hl2 hP'
        refine ⟨arr, te, fr, pre, post, ?_, h2, by rw [← hE]; simpa [Gh.push, hne] using h3, by rw [← hE]; simpa [Gh.push, hne] using h4⟩
        rw [hblk j hjn, hold _ (placed_lt R hj hP')]; exact h1
      · have := B.grow hm; rw [← hE]; simpa [Gh.push, hne] using this
  · rcases hget j c hj with ⟨ej, ec⟩ | ⟨hjn, hj'⟩ <;> rcases hget k d hk with ⟨ek, ed⟩ | ⟨hkn, hk'⟩
    · omega
    · have := placed_lt R hk' ((hplaced k d hkn).1 hO.2)
      rw [hblk k hkn, ej, hbn] at e; omega
    · have := placed_lt R hj' ((hplaced j c hjn).1 hP)
      rw [hblk j hjn, ek, hbn] at e; omega
    · rw [hblk j hjn, hblk k hkn] at e
      exact R.inj j k c d hj' hk' ((hplaced j c hjn).1 hP) ⟨hO.1, (hplaced k d hkn).1 hO.2⟩ e
  · obtain ⟨j, c, hj, hO, e⟩ := hx
    rcases hget j c hj with ⟨rfl, rfl⟩ | ⟨hjn, hj⟩
    · right; rw [hbn] at e; omega
    · left; exact ⟨j, c, hj, ⟨hO.1, (hplaced j c hjn).1 hO.2⟩, by rw [← e, hblk j hjn]⟩
end

end Go.Vab

/-
  What code comes to, by relation: every outcome. One operation, a list of operations.
-/
namespace Go.Vab
open Go

/-- What a call comes to, whatever is drawn. -/
def SpecQ (P : Program) (g : Nat) (args : List AV) (h : Heap) (K : AV × Heap → Prop) : Prop :=
  ∀ (E : Gh) (w : World) (xs : List Value), RelHeap E h w → VRc E args xs →
    ((∃ fn, P.funcs[g]? = some fn ∧ (fn.name == "runtime.NumGoroutine") = false ∧ fn.body.isNone = false) ∧
      Calls P g xs.toArray w fun e w' => ∃ r E' x, K r ∧ e = .returned x ∧ VRel E' r.1 x ∧ Moves E h w E' r.2 w') ∨
    (∃ x w' r E', (callFunc g xs.toArray).run P w = .ok (.value x) w' ∧ K r ∧ VRel E' r.1 x ∧ Moves E h w E' r.2 w')

theorem SpecQ.mono {P : Program} {g : Nat} {args : List AV} {h : Heap} {K K' : AV × Heap → Prop} (hs : SpecQ P g args h K) (hK : ∀ r, K r → K' r) : SpecQ P g args h K' := by
  intro E w xs R hx
  rcases hs E w xs R hx with ⟨h1, h2⟩ | ⟨x, w', r, E', h1, h2, h3, h4⟩
  · refine .inl ⟨h1, h2.mono fun e w' hp => ?_⟩
    obtain ⟨r, E', x, g1, g2⟩ := hp
    exact ⟨r, E', x, hK r g1, g2⟩
  · exact .inr ⟨x, w', r, E', h1, hK r h2, h3, h4⟩

/-- A row with zero values behind it. -/
def padRow (row zero : AV) (m : Nat) : Option AV := row.join (zeroRow m zero)

/-- append: in place where there is room, else a new row with room that nobody knows ahead. -/
def appW (t : Ty) (bytes : Nat) (zero s x : AV) (h : Heap) (K : AV × Heap → Prop) : Prop :=
  ∃ new n, mElems t x h = some new ∧ new.rowLen = some n ∧ match s with
    | .nilslice => (n = 0 ∧ K (.nilslice, h)) ∨ (0 < n ∧ n * bytes ≤ roomBound ∧ n ≤ roomBound ∧ bytes ≤ 1000000 ∧
        ∀ c row, n ≤ c → padRow new zero (c - n) = some row → K (.slice h.length 0 [] t 0 n (some c), h ++ [⟨row, 0, .own⟩]))
    | .slice i ver path t' off len (some c) => ∃ old all, mElems t (.slice i ver path t' off len (some c)) h = some old ∧ old.join new = some all ∧
        ((n = 0 ∧ len ≤ c ∧ K (.slice i ver path t' off len (some c), h)) ∨
         (0 < n ∧ len + n ≤ c ∧ ∃ b r r' v', blkAt h i ver = some b ∧ b.mode ≠ .ro ∧ b.v.get path = some r ∧ r.splice (off + len) n new = some r' ∧ b.v.put path r' = some v' ∧ K (.slice i ver path t' off (len + n) (some c), h.set i { b with v := v' })) ∨
         (0 < n ∧ c < len + n ∧ (len + n) * bytes ≤ roomBound ∧ len + n ≤ roomBound ∧ bytes ≤ 1000000 ∧
          ∀ c' row, len + n ≤ c' → padRow all zero (c' - (len + n)) = some row → K (.slice h.length 0 [] t 0 (len + n) (some c'), h ++ [⟨row, 0, .own⟩])))
    | _ => False

/-- append(s, make(..)...): zero values behind. -/
def appZ (t : Ty) (bytes : Nat) (zero s : AV) (n : Nat) (h : Heap) (K : AV × Heap → Prop) : Prop := match s with
  | .slice i ver path t' off len (some c) => ∃ old all, mElems t (.slice i ver path t' off len (some c)) h = some old ∧ old.join (zeroRow n zero) = some all ∧
      0 < n ∧ c < len + n ∧ (len + n) * bytes ≤ roomBound ∧ len + n ≤ roomBound ∧ bytes ≤ 1000000 ∧
      ∀ c' row, len + n ≤ c' → padRow all zero (c' - (len + n)) = some row → K (.slice h.length 0 [] t 0 (len + n) (some c'), h ++ [⟨row, 0, .own⟩])
  | _ => False

def mCap (x : AV) : Option AV := match x with
  | .slice _ _ _ _ _ _ (some c) => some (.int .i64 c)
  | .nilslice => some (.int .i64 0)
  | _ => none

def mClear (t : Ty) (zero x : AV) (h : Heap) : Option (AV × Heap) := match x with
  | .nilslice => some (.tuple [], h)
  | .slice i ver path t' off len _ => if len = 0 then some (.tuple [], h) else if Ty.beq t' t then bnd (blkAt h i ver) fun b => if b.mode = .ro then none else bnd (b.v.get path) fun r => bnd (r.splice off len (zeroRow len zero)) fun r' => bnd (b.v.put path r') fun v' => some (.tuple [], h.set i { b with v := v' }) else none
  | _ => none

def withTyP (C : Ctx) (t : Nat) (f : TI → (AV × Heap → Prop) → Prop) (K : AV × Heap → Prop) : Prop := match C.tt t with
  | some i => f i K
  | none => False

def optP {α : Type} (x : Option α) (f : α → (AV × Heap → Prop) → Prop) (K : AV × Heap → Prop) : Prop := match x with
  | some i => f i K
  | none => False

def tyP (t : Ty) (a b : (AV × Heap → Prop) → Prop) (K : AV × Heap → Prop) : Prop := match t with
  | .cell => a K
  | .int _ => b K
  | _ => False

def appZn (t : Ty) (bytes : Nat) (zero s x : AV) (h : Heap) (K : AV × Heap → Prop) : Prop := ∃ n : Nat, x = .int .i64 n ∧ n ≤ roomBound ∧ appZ t bytes zero s n h K

def bW (C : Ctx) (b : Builtin) (ats : Array TypeId) (as : List AV) (h : Heap) : (AV × Heap → Prop) → Prop :=
  match b, as with
  | .append, [s, x] => optP ats[0]? fun t => optP ats[1]? fun u => withTyP C t fun i => withTyP C u fun j => optP i.elem fun e => withTyP C e fun el =>
      tyP j.ty (appW el.ty el.bytes el.zero s x h) (appZn el.ty el.bytes el.zero s x h)
  | .cap, [x] => optP ats[0]? fun t => withTyP C t fun i => optP i.elem fun _ => Evs (pureV h (mCap x))
  | .clear, [x] => optP ats[0]? fun t => withTyP C t fun i => optP i.elem fun e => withTyP C e fun el => Evs (mClear el.ty el.zero x h)
  | b, as => Evs (evBuiltin C b ats as h)

noncomputable def opW (P : Program) (C : Ctx) (V : Operand → AV) (h : Heap) (op : Op) : (AV × Heap → Prop) → Prop := match op with
  | .call c => match c.callee with
    | .value f => match V f with
      | .fn g caps => SpecQ P g (c.args.toList.map V ++ caps) h
      | _ => fun _ => False
    | .builtin b => bW C b c.argTypes (c.args.toList.map V) h
    | _ => fun _ => False
  | .makeMap t none => Evs (ifT P t (mMkMap h))
  | .lookup t m k false => Evs (pureV h (ifT P t (mLook (V m) (V k) h)))
  | .mapUpdate t m k x => Evs (ifT P t (mUpd (V m) (V k) (V x) h))
  | op => Evs (evOp C false V h op)

def gW (y : AV) (want : Bool) (X : (AV × Heap → Prop) → Prop) (h : Heap) (K : AV × Heap → Prop) : Prop := match y with
  | .bool b => if b = want then X K else K (.undef, h)
  | .undef => K (.undef, h)
  | _ => False

def oneW (P : Program) (C : Ctx) (ops : List Oper) (o : Oper) (σ : Nat → AV) (h : Heap) : (AV × Heap → Prop) → Prop :=
  match o.guard with
  | none => opW P C (opvF σ) h o.op
  | some (j, want) => match dstOf ops j with
    | some d => gW (σ d) want (opW P C (opvF σ) h o.op) h
    | none => fun _ => False

def Mono (F : (AV × Heap → Prop) → Prop) : Prop := ∀ K K', (∀ r, K r → K' r) → F K → F K'

theorem appW_mono {t : Ty} {bytes : Nat} {zero s x : AV} {h : Heap} : Mono (appW t bytes zero s x h) := by
  rintro K K' hK ⟨new, n, h1, h2, h3⟩
  refine ⟨new, n, h1, h2, ?_⟩
  cases s with
  | nilslice =>
    rcases h3 with ⟨g1, g2⟩ | ⟨g1, g2, g3, g4, g5⟩
    · exact .inl ⟨g1, hK _ g2⟩
    · exact .inr ⟨g1, g2, g3, g4, fun c row hc hr => hK _ (g5 c row hc hr)⟩
  | slice i ver path t' off len cap =>
    cases cap with
    | none => exact h3
    | some c =>
      obtain ⟨old, all, g1, g2, h4⟩ := h3
      refine ⟨old, all, g1, g2, ?_⟩
      rcases h4 with ⟨q1, q2, q3⟩ | ⟨q1, q2, b, r, r', v', q3, q4, q5, q6, q7, q8⟩ | ⟨q1, q2, q3, q4, q5, q6⟩
      · exact .inl ⟨q1, q2, hK _ q3⟩
      · exact .inr (.inl ⟨q1, q2, b, r, r', v', q3, q4, q5, q6, q7, hK _ q8⟩)
      · exact .inr (.inr ⟨q1, q2, q3, q4, q5, fun c row hc hr => hK _ (q6 c row hc hr)⟩)
  | _ => exact h3

theorem appZn_mono {t : Ty} {bytes : Nat} {zero s x : AV} {h : Heap} : Mono (appZn t bytes zero s x h) := by
  rintro K K' hK ⟨n, h1, h2, ha⟩
  refine ⟨n, h1, h2, ?_⟩
  cases s with
  | slice i ver path t' off len cap =>
    cases cap with
    | none => exact ha
    | some c =>
      obtain ⟨old, all, g1, g2, q1, q2, q3, q4, q5, q6⟩ := ha
      exact ⟨old, all, g1, g2, q1, q2, q3, q4, q5, fun c row hc hr => hK _ (q6 c row hc hr)⟩
  | _ => exact ha

theorem Mono.evs (m : Option (AV × Heap)) : Mono (Evs m) := fun _ _ hK h => Evs.mono h hK
theorem Mono.ff : Mono (fun _ => False) := fun _ _ _ h => h
theorem Mono.withTyP {C : Ctx} {t : Nat} {f : TI → (AV × Heap → Prop) → Prop} (hf : ∀ i, Mono (f i)) : Mono (withTyP C t f) := by
  intro K K' hK h
  unfold Go.Vab.withTyP at h ⊢
  cases hc : C.tt t with
  | none => rw [hc] at h; exact h
  | some i => rw [hc] at h; exact hf i K K' hK h
theorem Mono.optP {α : Type} {x : Option α} {f : α → (AV × Heap → Prop) → Prop} (hf : ∀ i, Mono (f i)) : Mono (optP x f) := by
  intro K K' hK h
  cases x with
  | none => exact h
  | some i => exact hf i K K' hK h
theorem Mono.tyP {t : Ty} {a b : (AV × Heap → Prop) → Prop} (ha : Mono a) (hb : Mono b) : Mono (tyP t a b) := by
  intro K K' hK h
  cases t with
  | cell => exact ha K K' hK h
  | int k => exact hb K K' hK h
  | _ => exact h

theorem bW_mono {C : Ctx} {b : Builtin} {ats : Array TypeId} {as : List AV} {h : Heap} : Mono (bW C b ats as h) := by
  unfold bW
  split
  · exact .optP fun _ => .optP fun _ => .withTyP fun _ => .withTyP fun _ => .optP fun _ => .withTyP fun _ => .tyP appW_mono appZn_mono
  · exact .optP fun _ => .withTyP fun _ => .optP fun _ => .evs _
  · exact .optP fun _ => .withTyP fun _ => .optP fun _ => .withTyP fun _ => .evs _
  · exact .evs _

theorem opW_mono {P : Program} {C : Ctx} {V : Operand → AV} {h : Heap} {op : Op} : Mono (opW P C V h op) := by
  unfold opW
  split
  · split
    · split
      · exact fun _ _ hK h => SpecQ.mono h hK
      · exact .ff
    · exact bW_mono
    · exact .ff
  · exact .evs _
  · exact .evs _
  · exact .evs _
  · exact .evs _

theorem gW_mono {y : AV} {want : Bool} {X : (AV × Heap → Prop) → Prop} {h : Heap} (hX : Mono X) : Mono (gW y want X h) := by
  intro K K' hK ho
  cases y with
  | bool b =>
    simp only [gW] at ho ⊢
    split at ho
    · rename_i hb; rw [if_pos hb]; exact hX K K' hK ho
    · rename_i hb; rw [if_neg hb]; exact hK _ ho
  | undef => exact hK _ ho
  | _ => exact ho

theorem oneW_mono {P : Program} {C : Ctx} {ops : List Oper} {o : Oper} {σ : Nat → AV} {h : Heap} : Mono (oneW P C ops o σ h) := by
  unfold oneW
  split
  · exact opW_mono
  · split
    · exact gW_mono opW_mono
    · exact .ff

end Go.Vab

/-
  append, cap, clear: every outcome is one that the relation tells.
-/
namespace Go.Vab
open Go

theorem zc_flat (z : Value) : ∀ q : Nat, (Builtin.zeroCells z.cells q).toList = (List.replicate q z.cells.toList).flatten := by
  intro q
  simp only [Builtin.zeroCells, Array.toList_map, Array.toList_range]
  induction q with
  | zero => simp
  | succ q ih =>
    rw [Nat.succ_mul, Nat.add_comm, List.range_add, List.map_append, List.replicate_succ, List.flatten_cons]
    congr 1
    · apply List.ext_getElem?
      intro k
      by_cases hk : k < z.cells.size
      · simp [hk, Nat.mod_eq_of_lt hk]
      · simp [hk]
    · rw [← ih, List.map_map]
      apply List.map_congr_left
      intro x _
      simp [Nat.add_mod_left]

theorem zeroRow_spec {E : Gh} {zero : AV} {t : Ty} {z : Value} (hz : hasTy zero t = true) (hr : VRel E zero z) (m : Nat) : hasTy (zeroRow m zero) (.arr m t) = true ∧ VRl E (zeroRow m zero) (Builtin.zeroCells z.cells m).toList := by
  rw [zc_flat]
  have hzc := VRel.cells hz hr
  have node : ∀ zz : AV, zero = zz → (∀ k n, zz ≠ .int k n) → hasTy (AV.node (List.replicate m zz)) (.arr m t) = true ∧ VRl E (.node (List.replicate m zz)) (List.replicate m z.cells.toList).flatten := by
    intro zz hzz hni
    have hall : hasTyAll (List.replicate m zz) t = true := by
      rw [hasTyAll_iff]
      intro v hv
      obtain ⟨_, rfl⟩ := List.mem_replicate.1 hv
      rw [← hzz]; exact hz
    have hni' : ∀ k, t ≠ .int k := by
      rintro k rfl
      cases zero <;> simp [hasTy, AV.oneCell] at hz
      exact hni _ _ hzz.symm
    constructor
    · cases t with
      | int k => exact absurd rfl (hni' k)
      | _ => simp [hasTy, hall]
    · simp only [VRl]
      have hv : ∀ q, VRs E (List.replicate q zz) ((List.replicate q z.cells.toList).flatten) := by
        intro q
        induction q with
        | zero => simp [VRs]
        | succ q ih =>
          rw [List.replicate_succ, List.replicate_succ, List.flatten_cons]
          exact VRs.cons (by rw [← hzz]; exact hzc) ih
      exact hv m
  cases hzz : zero with
  | int k z0 =>
    subst hzz
    have hk : t = .int k := by cases t <;> simp [hasTy, AV.oneCell] at hz; rw [hz]
    have hzv : z = .int k z0 := by simpa only [VRel] using hr
    subst hk; subst hzv
    constructor
    · simp [zeroRow, hasTy]
    · simp only [zeroRow, VRl]
      simp [Value.cells]
  | _ => simp only [zeroRow]; exact node _ hzz (by simp)

theorem join_some {a b : AV} {n m : Nat} {t : Ty} (ha : hasTy a (.arr n t) = true) (hb : hasTy b (.arr m t) = true) : ∃ r, a.join b = some r := by
  cases a with
  | ints k xs =>
    obtain ⟨rfl, h1⟩ := hasTy_ints_arr ha
    cases b with
    | ints k' ys =>
      obtain ⟨e, _⟩ := hasTy_ints_arr hb
      cases e
      exact ⟨_, by simp [AV.join]; rfl⟩
    | node us => simp [hasTy] at hb
    | _ => simp [hasTy] at hb
  | node vs =>
    cases b with
    | ints k' ys =>
      obtain ⟨rfl, _⟩ := hasTy_ints_arr hb
      simp [hasTy] at ha
    | node us => exact ⟨_, rfl⟩
    | _ => cases t <;> simp [hasTy] at hb
  | _ => cases t <;> simp [hasTy] at ha

theorem own_sound {E : Gh} {h : Heap} {w w' : World} (R : RelHeap E h w) {t : Ty} {all zero : AV} {n c : Nat} (hrow : hasTy all (.arr n t) = true) {l : List Value} (hl : VRl E all l) {z : Value} (hzt : hasTy zero t = true) (hz : VRel E zero z)
    {arr : Array Value} {te : TypeId} (hw : w'.heap = w.heap.push (.cells arr te (0, 0))) (hc : n ≤ c) (ha : arr.toList = l ++ (Builtin.zeroCells z.cells (c - n)).toList) (hio : Io w w') :
    ∃ row E', padRow all zero (c - n) = some row ∧ VRel E' (.slice h.length 0 [] t 0 n (some c)) (.slice (some ⟨w.heap.size, 0, none⟩) n c) ∧ Moves E h w E' (h ++ [⟨row, 0, .own⟩]) w' := by
  obtain ⟨z1, z2⟩ := zeroRow_spec hzt hz (c - n)
  obtain ⟨row, hr⟩ := join_some hrow z1
  obtain ⟨r1, r2⟩ := join_spec hr hrow z1 hl z2
  rw [show n + (c - n) = c by omega] at r1
  refine ⟨row, E.push w.heap.size arr.size 0 true (.arr 0 t), hr, ?_, ?_⟩
  · simp only [VRel]
    refine ⟨_, c, rfl, by simp [Gh.push, R.n], by simp [Gh.push, R.n], hc, fun x hx => by simpa using hx, fun hx => (by cases hx), fun _ => ⟨0, 0, by simp [Gh.push, R.n, Ty.sub], fun _ => by simp [Gh.push, R.n], fun hx => (by cases hx)⟩⟩
  · exact moves_push R ⟨row, 0, .own⟩ arr.size true (.arr 0 t) (by simp) (by simp only [if_true]; exact ⟨c, t, rfl, r1⟩) (by simp) r2 (.inl ⟨arr, te, (0, 0), [], hw, by simp [ha], rfl, by simp⟩) hio

section
variable {P : Program} {tt : Nat → Option TI} (T : TTok P tt) {E : Gh} {h : Heap} {w : World} (R : RelHeap E h w)
  {st xt e : Nat} {el : TI} {ats : Array TypeId} {ty : TypeId} (hst : ats[0]? = some st) (hxt : ats[1]? = some xt) (hu : P.underlying st = some (.slice e)) (hel : tt e = some el)
include T hst hxt hu hel

theorem capb {need cap bytes : Nat} (hgt : cap < need) (hb1 : need * bytes ≤ roomBound) (hb3 : bytes ≤ 1000000) : ¬ (Builtin.nextslicecap need cap * bytes > 2 ^ 48) := by
  have h1 := nextslicecap_le need cap hgt
  have h2 : Builtin.nextslicecap need cap * bytes ≤ (need + need / 4 + 512) * bytes := Nat.mul_le_mul_right _ h1
  have h3 : need / 4 * bytes ≤ need * bytes / 4 := by
    rw [Nat.le_div_iff_mul_le (by omega)]
    have : need / 4 * bytes * 4 = (need / 4 * 4) * bytes := by rw [Nat.mul_assoc, Nat.mul_comm bytes 4, ← Nat.mul_assoc]
    rw [this]
    exact Nat.mul_le_mul_right _ (Nat.div_mul_le_self _ _)
  rw [Nat.add_mul, Nat.add_mul] at h2
  unfold roomBound at hb1
  omega

theorem run_append_own {dx : TypeDesc} (hux : P.underlying xt = some dx) (hdx : ∀ k, dx ≠ .int k) {base : Option Addr} {len cap n : Nat} {yx : Value} {old new : Array Value} (hn : (Builtin.lenOf yx).run P w = .ok n w) (hgt : cap < len + n)
    (hold : ∀ w', w'.heap = w.heap → (Builtin.firstCells el.ty.size len (.slice base len cap)).run P w' = .ok old w')
    (hnew : ∀ w', w'.heap = w.heap → (Builtin.firstCells el.ty.size n yx).run P w' = .ok new w')
    (hb1 : (len + n) * el.bytes ≤ roomBound) (hb2 : len + n ≤ roomBound) (hb3 : el.bytes ≤ 1000000) :
    ∃ c w' z, (∀ E, VRel E el.zero z) ∧ (Builtin.append_ ats ty #[.slice base len cap, yx]).run P w = .ok (.slice (some ⟨w.heap.size, 0, none⟩) (len + n) c) w' ∧
      w'.heap = w.heap.push (.cells (old ++ new ++ Builtin.zeroCells z.cells (c - (len + n))) e (0, 0)) ∧ len + n ≤ c ∧ Io w w' := by
  obtain ⟨f, z0, hf, hfs, hfb, hz0, hzr⟩ := T.info e el hel
  obtain ⟨z, hz, hzrel⟩ := run_zero_tt T hel { w with drawn := w.drawn + 1 }
  have hti : ∀ w, (typeInfo e).run P w = .ok f w := fun w => by simp [typeInfo, hf]
  have hcapb : ¬ (Builtin.nextslicecap (len + n) cap * f.bytes > 2 ^ 48) := by rw [hfb]; exact capb T hst hxt hu hel hgt hb1 hb3
  have hcut : ∀ t, len + n ≤ (Question.appendCap (len + n) cap e).cut t := fun t => by simp [Question.cut]
  obtain ⟨c, hc⟩ : ∃ c, c = (Question.appendCap (len + n) cap e).cut (w.tape w.drawn (.appendCap (len + n) cap e)) := ⟨_, rfl⟩
  have hcge : len + n ≤ c := by rw [hc]; exact hcut _
  refine ⟨c, { w with drawn := w.drawn + 1, heap := w.heap.push (.cells (old ++ new ++ Builtin.zeroCells z.cells (c - (len + n))) e (0, 0)) }, z, hzrel, ?_, rfl, hcge, ⟨rfl, rfl, rfl⟩⟩
  have hle : ¬ (len + n ≤ cap) := by omega
  have hmax : ¬ (((len + n : Nat) : Int) > IntKind.i64.max) := by
    unfold roomBound at hb2
    simp [IntKind.max, IntKind.signed, IntKind.bits]; omega
  simp only [Builtin.append_, hst, hxt]
  simp only [List.getElem?_toArray, List.getElem?_cons_zero, List.getElem?_cons_succ, Sem.run_bind, run_underlying hu w, run_underlying hux w, Result.andThen_ok, run_sizeOf_tt T hel w]
  simp only [Sem.run_pure, Result.andThen_ok]
  have key : ((Builtin.firstCells el.ty.size len (.slice base len cap)).run P { w with drawn := w.drawn + 1 }) = .ok old { w with drawn := w.drawn + 1 } := hold _ rfl
  have key2 : ((Builtin.firstCells el.ty.size n yx).run P { w with drawn := w.drawn + 1 }) = .ok new { w with drawn := w.drawn + 1 } := hnew _ rfl
  cases dx <;> first
    | exact absurd rfl (hdx _)
    | (simp only [Bool.false_eq_true, if_false, Sem.run_bind, hn, Result.andThen_ok, Bool.not_false, if_true, hle, hti, hmax, false_and, hcapb, run_choose, Question.forced, run_askRoom, key, key2, hz, newRow, run_newObj, Sem.run_pure, ← hc])

theorem run_append_ownZ (hne : el.ty.size ≠ 0) {kn : IntKind} (hux : P.underlying xt = some (.int kn)) {base : Option Addr} {len cap n : Nat} {old : Array Value} (h0 : 0 < n) (hgt : cap < len + n)
    (hold : ∀ w', w'.heap = w.heap → (Builtin.firstCells el.ty.size len (.slice base len cap)).run P w' = .ok old w')
    (hb1 : (len + n) * el.bytes ≤ roomBound) (hb2 : len + n ≤ roomBound) (hb3 : el.bytes ≤ 1000000) :
    ∃ c w' z, (∀ E, VRel E el.zero z) ∧ (Builtin.append_ ats ty #[.slice base len cap, .int .i64 n]).run P w = .ok (.slice (some ⟨w.heap.size, 0, none⟩) (len + n) c) w' ∧
      w'.heap = w.heap.push (.cells (old ++ Builtin.zeroCells z.cells n ++ Builtin.zeroCells z.cells (c - (len + n))) e (0, 0)) ∧ len + n ≤ c ∧ Io w w' := by
  obtain ⟨f, z0, hf, hfs, hfb, hz0, hzr⟩ := T.info e el hel
  have hz : ∀ w, (zeroValue e).run P w = .ok z0 w := fun w => by simp [zeroValue, typeInfo, hf, hz0]
  have hti : ∀ w, (typeInfo e).run P w = .ok f w := fun w => by simp [typeInfo, hf]
  have hcapb : ¬ (Builtin.nextslicecap (len + n) cap * f.bytes > 2 ^ 48) := by rw [hfb]; exact capb T hst hxt hu hel hgt hb1 hb3
  have hcut : ∀ t, len + n ≤ (Question.appendCap (len + n) cap e).cut t := fun t => by simp [Question.cut]
  obtain ⟨c, hc⟩ : ∃ c, c = (Question.appendCap (len + n) cap e).cut (w.tape w.drawn (.appendCap (len + n) cap e)) := ⟨_, rfl⟩
  have hcge : len + n ≤ c := by rw [hc]; exact hcut _
  refine ⟨c, { w with drawn := w.drawn + 1, heap := w.heap.push (.cells (old ++ Builtin.zeroCells z0.cells n ++ Builtin.zeroCells z0.cells (c - (len + n))) e (0, 0)) }, z0, hzr, ?_, rfl, hcge, ⟨rfl, rfl, rfl⟩⟩
  have hle : ¬ (len + n ≤ cap) := by omega
  have hmax : ¬ (((len + n : Nat) : Int) > IntKind.i64.max) := by
    unfold roomBound at hb2
    simp [IntKind.max, IntKind.signed, IntKind.bits]; omega
  have hw : IntKind.i64.wrap (n : Int) = n := by
    unfold roomBound at hb2
    unfold IntKind.wrap
    simp [IntKind.bits, IntKind.signed]; omega
  have hneg : ¬ ((n : Int) < 0) := by omega
  have h48 : ¬ ((n : Int) * (f.bytes : Int) > 2 ^ 48) := by
    rw [hfb]
    have : n * el.bytes ≤ (len + n) * el.bytes := Nat.mul_le_mul_right _ (by omega)
    unfold roomBound at hb1
    have h2 : n * el.bytes ≤ 140737488355328 := by omega
    have : (n : Int) * (el.bytes : Int) = ((n * el.bytes : Nat) : Int) := by simp
    omega
  have hns : ¬ (n * el.ty.size = 0) := Nat.mul_ne_zero (by omega) hne
  have key : ((Builtin.firstCells el.ty.size len (.slice base len cap)).run P { w with drawn := w.drawn + 1 }) = .ok old { w with drawn := w.drawn + 1 } := hold _ rfl
  simp only [Builtin.append_, hst, hxt]
  simp only [List.getElem?_toArray, List.getElem?_cons_zero, List.getElem?_cons_succ, Sem.run_bind, run_underlying hu w, run_underlying hux w, Result.andThen_ok, run_sizeOf_tt T hel w]
  simp only [Sem.run_pure, Result.andThen_ok, if_true, Sem.run_bind, asInt, asIntOf, hw, hneg, if_false, hti, h48, Int.toNat_natCast, hle, hmax, false_and, hcapb, run_choose, Question.forced, run_askRoom, key, Bool.not_true, Bool.false_eq_true, hns, hz, newRow, run_newObj, ← hc]

/-- append's outcomes. -/
theorem appW_sound (hne : el.ty.size ≠ 0) {dx : TypeDesc} (hux : P.underlying xt = some dx) (hdx : ∀ k, dx ≠ .int k) (R : RelHeap E h w)
    {s x : AV} {ys yx : Value} {K : AV × Heap → Prop} (hs : VRel E s ys) (hx : VRel E x yx) (he : appW el.ty el.bytes el.zero s x h K) :
    ∃ r E' w' y, (Builtin.append_ ats ty #[ys, yx]).run P w = .ok y w' ∧ K r ∧ VRel E' r.1 y ∧ Moves E h w E' r.2 w' := by
  obtain ⟨new, n, hnew, hrl, he⟩ := he
  obtain ⟨n', ln, k1, k2, k3, k4, k5⟩ := elems_spec (P := P) R hnew hx
  have e1 : n = n' := by rw [hrl] at k1; exact Option.some.inj k1
  subst e1
  have hlnew := VRl.len new _ _ k2 k3
  simp only [Ty.size] at hlnew
  have k5w : ∀ w' : World, w'.heap = w.heap → (Builtin.firstCells el.ty.size n yx).run P w' = .ok ln.toArray w' := fun w' hw' => by
    have := k5 w' hw' n (Nat.le_refl _)
    rwa [← hlnew, List.take_length] at this
  cases s with
  | nilslice =>
    simp only [VRel] at hs; subst hs
    rcases he with ⟨hn0, hK⟩ | ⟨hn0, hb1, hb2, hb3, hK⟩
    · have hln : ln = [] := List.eq_nil_of_length_eq_zero (by rw [hlnew, hn0]; simp)
      refine ⟨_, E, w, .slice none 0 0, ?_, hK, by simp only [VRel], Moves.refl R⟩
      rw [run_append_room T hst hxt hu hel hux hdx k4 (by omega) (k5w w rfl)]
      simp [hn0]
    · obtain ⟨c, w', z, h0, h1, h2, h3, h4⟩ := run_append_own (P := P) T hst hxt hu hel hux hdx (base := none) (len := 0) (cap := 0) (ty := ty) k4 (by omega) (old := #[]) (fun w' _ => by simp [Builtin.firstCells]) k5w
        (by simpa using hb1) (by simpa using hb2) hb3
      simp only [Nat.zero_add] at h1 h2 h3
      obtain ⟨row, E', g0, g1, g2⟩ := own_sound R (te := e) k2 k3 (T.zero e el hel) (h0 E) h2 h3 (by simp) h4
      exact ⟨_, E', w', _, h1, hK c row h3 g0, g1, g2⟩
  | slice i ver path t' off len cap =>
    cases cap with
    | none => exact he.elim
    | some c0 =>
      obtain ⟨old, all, hold, hall, he⟩ := he
      obtain ⟨no, lo, o1, o2, o3, o4, o5⟩ := elems_spec (P := P) R hold hs
      have hs' := hs
      simp only [VRel] at hs
      obtain ⟨a, c, rfl, hi, hv, hlen, hcap, hcn, hslc⟩ := hs
      have hc0 : c = c0 := hcap c0 rfl
      subst hc0
      have hno : no = len := by
        simp only [Builtin.lenOf, Sem.run_pure] at o4
        injection o4 with o4 _; exact o4.symm
      subst hno
      have hlold := VRl.len old _ _ o2 o3
      simp only [Ty.size] at hlold
      obtain ⟨j1, j2⟩ := join_spec hall o2 k2 o3 k3
      have hold' : ∀ w' : World, w'.heap = w.heap → (Builtin.firstCells el.ty.size no (.slice (some a) no c)).run P w' = .ok lo.toArray w' := fun w' hw' => by
        have := o5 w' hw' no (Nat.le_refl _)
        rwa [← hlold, List.take_length] at this
      rcases he with ⟨hn0, hle, hK⟩ | ⟨hn0, hroom, b, r, r', v', hbk, hmode, hg, hsp, hput, hK⟩ | ⟨hn0, hgt, hb1, hb2, hb3, hK⟩
      · have hln : ln = [] := List.eq_nil_of_length_eq_zero (by rw [hlnew, hn0]; simp)
        refine ⟨_, E, w, .slice (some a) no c, ?_, hK, hs', Moves.refl R⟩
        rw [run_append_room T hst hxt hu hel hux hdx k4 (by omega) (k5w w rfl)]
        simp [hn0, hln, storeCells]
      · obtain ⟨hbi, hbv⟩ := blkAt_spec hbk
        have hver : ver = E.ver i := by rw [← hbv]; exact (R.at_ i b hbi).ver
        obtain ⟨o, q, hsub, ha, hrm⟩ := hslc hver
        have hte : t' = el.ty := by
          simp only [mElems] at hold
          split at hold
          · rename_i hbt; exact Ty.beq_eq _ _ hbt
          · cases hold
        subst hte
        obtain ⟨w', hr, hm⟩ := splice_ok (P := P) R hsub hbk hmode hg hsp hput k2 k3
        refine ⟨_, E, w', .slice (some a) (no + n) c, ?_, hK, ?_, hm⟩
        · rw [run_append_room T hst hxt hu hel hux hdx k4 hroom (k5w w rfl)]
          rw [← hlnew, List.take_length] at hr
          simp only [ha (by omega), add_mk]
          rw [show E.base i + o + off * el.ty.size + no * el.ty.size = E.base i + o + (off + no) * el.ty.size by rw [Nat.add_mul]; omega, hr]
          rfl
        · simp only [VRel]
          exact ⟨a, c, rfl, hi, hv, hroom, hcap, fun hx => (by cases hx), fun hvv => by
            obtain ⟨o', q', s1, s2, s3⟩ := hslc hvv
            exact ⟨o', q', s1, s2, fun hx => by cases hx⟩⟩
      · obtain ⟨c', w', z, h0, h1, h2, h3, h4⟩ := run_append_own (P := P) T hst hxt hu hel hux hdx (base := some a) (len := no) (cap := c) (ty := ty) k4 hgt hold' k5w hb1 hb2 hb3
        obtain ⟨row, E', g0, g1, g2⟩ := own_sound R (te := e) j1 j2 (T.zero e el hel) (h0 E) h2 h3 (by simp) h4
        exact ⟨_, E', w', _, h1, hK c' row h3 g0, g1, g2⟩
  | _ => exact he.elim

theorem appZn_sound (hne : el.ty.size ≠ 0) {kn : IntKind} (hux : P.underlying xt = some (.int kn)) (R : RelHeap E h w)
    {s x : AV} {ys yx : Value} {K : AV × Heap → Prop} (hs : VRel E s ys) (hx : VRel E x yx) (he : appZn el.ty el.bytes el.zero s x h K) :
    ∃ r E' w' y, (Builtin.append_ ats ty #[ys, yx]).run P w = .ok y w' ∧ K r ∧ VRel E' r.1 y ∧ Moves E h w E' r.2 w' := by
  obtain ⟨n, rfl, _, he⟩ := he
  simp only [VRel] at hx; subst hx
  cases s with
  | slice i ver path t' off len cap =>
    cases cap with
    | none => exact he.elim
    | some c0 =>
      obtain ⟨old, all, hold, hall, hn0, hgt, hb1, hb2, hb3, hK⟩ := he
      obtain ⟨no, lo, o1, o2, o3, o4, o5⟩ := elems_spec (P := P) R hold hs
      simp only [VRel] at hs
      obtain ⟨a, c, rfl, hi, hv, hlen, hcap, hcn, hslc⟩ := hs
      have hc0 : c = c0 := hcap c0 rfl
      subst hc0
      have hno : no = len := by
        simp only [Builtin.lenOf, Sem.run_pure] at o4
        injection o4 with o4 _; exact o4.symm
      subst hno
      have hlold := VRl.len old _ _ o2 o3
      simp only [Ty.size] at hlold
      have hold' : ∀ w' : World, w'.heap = w.heap → (Builtin.firstCells el.ty.size no (.slice (some a) no c)).run P w' = .ok lo.toArray w' := fun w' hw' => by
        have := o5 w' hw' no (Nat.le_refl _)
        rwa [← hlold, List.take_length] at this
      obtain ⟨c', w', z, h0, h1, h2, h3, h4⟩ := run_append_ownZ (P := P) T hst hxt hu hel hne hux (base := some a) (len := no) (cap := c) (ty := ty) hn0 hgt hold' hb1 hb2 hb3
      obtain ⟨z1, z2⟩ := zeroRow_spec (T.zero e el hel) (h0 E) n
      obtain ⟨j1, j2⟩ := join_spec hall o2 z1 o3 z2
      obtain ⟨row, E', g0, g1, g2⟩ := own_sound R (te := e) j1 j2 (T.zero e el hel) (h0 E) h2 h3 (by simp) h4
      exact ⟨_, E', w', _, h1, hK c' row h3 g0, g1, g2⟩
  | _ => exact he.elim

end

section
variable {P : Program} {C : Ctx} (T : TTok P C.tt) {E : Gh} {h : Heap} {w : World} (R : RelHeap E h w)
include T R

theorem clear_sound {t e : Nat} {el : TI} {ats : Array TypeId} {ty : TypeId} (hat : ats[0]? = some t) (hu : P.underlying t = some (.slice e)) (hel : C.tt e = some el) {x v : AV} {h' : Heap} {yx : Value} (hx : VRel E x yx) (he : mClear el.ty el.zero x h = some (v, h')) :
    ∃ w' y, (Builtin.clear_ ats ty #[yx]).run P w = .ok y w' ∧ VRel E v y ∧ Moves E h w E h' w' := by
  have tup : VRel E (.tuple []) (.tuple #[]) := by simp only [VRel, VRc]; exact ⟨[], rfl, rfl⟩
  cases x with
  | nilslice =>
    simp only [VRel] at hx; subst hx
    simp only [mClear, Option.some.injEq, Prod.mk.injEq] at he
    obtain ⟨rfl, rfl⟩ := he
    exact ⟨w, .tuple #[], by simp [Builtin.clear_, hat, run_underlying hu w], tup, Moves.refl R⟩
  | slice i ver path t' off len cap =>
    simp only [mClear] at he
    simp only [VRel] at hx
    obtain ⟨a, c, rfl, hi, hv, hlen, hcap, hcn, hslc⟩ := hx
    split at he
    · rename_i h0
      simp only [Option.some.injEq, Prod.mk.injEq] at he
      obtain ⟨rfl, rfl⟩ := he
      subst h0
      exact ⟨w, .tuple #[], by simp [Builtin.clear_, hat, run_underlying hu w], tup, Moves.refl R⟩
    · rename_i h0
      split at he
      · rename_i hbt
        have hte := Ty.beq_eq _ _ hbt
        subst hte
        obtain ⟨b, hbk, he⟩ := bnd_eq_some.1 he
        split at he
        · cases he
        · rename_i hmode
          obtain ⟨r, hg, he⟩ := bnd_eq_some.1 he
          obtain ⟨r', hsp, he⟩ := bnd_eq_some.1 he
          obtain ⟨v', hput, he⟩ := bnd_eq_some.1 he
          simp only [Option.some.injEq, Prod.mk.injEq] at he
          obtain ⟨rfl, rfl⟩ := he
          obtain ⟨hbi, hbv⟩ := blkAt_spec hbk
          have hver : ver = E.ver i := by rw [← hbv]; exact (R.at_ i b hbi).ver
          obtain ⟨o, q, hsub, ha, hrm⟩ := hslc hver
          obtain ⟨z, hz, hzr⟩ := run_zero_tt T hel w
          obtain ⟨z1, z2⟩ := zeroRow_spec (T.zero e el hel) (hzr E) len
          have hzl := VRl.len _ _ _ z1 z2
          simp only [Ty.size] at hzl
          obtain ⟨w', hr, hm⟩ := splice_ok (P := P) R hsub hbk hmode hg hsp hput z1 z2
          rw [← hzl, List.take_length] at hr
          refine ⟨w', .tuple #[], ?_, tup, hm⟩
          obtain ⟨len, rfl⟩ : ∃ m, len = m + 1 := ⟨len - 1, by omega⟩
          have hae := ha (by omega)
          subst hae
          simp [Builtin.clear_, hat, run_underlying hu w, hz, hr]
      · cases he
  | _ => simp [mClear] at he

theorem bW_sound {b : Builtin} {ats : Array TypeId} {ty : TypeId} {consts : Array Bool} {as : List AV} {xs : List Value} (has : VRc E as xs) {K : AV × Heap → Prop} (he : bW C b ats as h K) :
    ∃ r E' w' y, (builtin b ats ty consts xs.toArray).run P w = .ok (.value y) w' ∧ K r ∧ VRel E' r.1 y ∧ Moves E h w E' r.2 w' := by
  have opt : ∀ {α : Type} {x : Option α} {f : α → (AV × Heap → Prop) → Prop}, optP x f K → ∃ i, x = some i ∧ f i K := by
    intro α x f hx
    cases x with
    | none => exact hx.elim
    | some i => exact ⟨i, rfl, hx⟩
  have wty : ∀ {t : Nat} {f : TI → (AV × Heap → Prop) → Prop}, withTyP C t f K → ∃ i, C.tt t = some i ∧ f i K := by
    intro t f hx
    unfold withTyP at hx
    split at hx
    · exact ⟨_, by assumption, hx⟩
    · cases hx
  have evs : ∀ {m : Option (AV × Heap)}, Evs m K → ∃ r, m = some r ∧ K r := fun h => h
  unfold bW at he
  split at he
  · rename_i s x
    simp only [VRc] at has
    obtain ⟨sv, l, rfl, hs, xv, l, rfl, hx, rfl⟩ := has
    obtain ⟨t, ht, he⟩ := opt he
    obtain ⟨u, hu', he⟩ := opt he
    obtain ⟨i, hi, he⟩ := wty he
    obtain ⟨j, hj, he⟩ := wty he
    obtain ⟨e, hel, he⟩ := opt he
    obtain ⟨el, he1, he⟩ := wty he
    obtain ⟨hu, el', hel', hne⟩ := T.elem t i e hi hel
    rw [he1] at hel'; injection hel' with hel'; subst hel'
    unfold tyP at he
    split at he
    · rename_i hjt
      obtain ⟨d, hd, _, _, hdi, _⟩ := T.cell u j hj hjt
      obtain ⟨r, E', w', y, h1, h2, h3, h4⟩ := appW_sound T ht hu' hu he1 (ty := ty) hne hd hdi R hs hx he
      exact ⟨r, E', w', y, by simp [builtin, h1], h2, h3, h4⟩
    · rename_i k hjt
      obtain ⟨r, E', w', y, h1, h2, h3, h4⟩ := appZn_sound T ht hu' hu he1 (ty := ty) hne (T.int u j k hj hjt) R hs hx he
      exact ⟨r, E', w', y, by simp [builtin, h1], h2, h3, h4⟩
    · cases he
  · rename_i x
    simp only [VRc] at has
    obtain ⟨xv, l, rfl, hx, rfl⟩ := has
    obtain ⟨t, ht, he⟩ := opt he
    obtain ⟨i, hi, he⟩ := wty he
    obtain ⟨e, hel, he⟩ := opt he
    obtain ⟨hu, _⟩ := T.elem t i e hi hel
    obtain ⟨r, hr, hK⟩ := evs he
    obtain ⟨h1, h2⟩ := pureV_some (show pureV h (mCap x) = some (r.1, r.2) from hr)
    refine ⟨r, E, w, ?_⟩
    cases x with
    | nilslice =>
      have h3 := Option.some.inj h1
      simp only [VRel] at hx; subst hx
      exact ⟨goInt 0, by simp [builtin, Builtin.cap_, ht, run_underlying hu w], hK, by rw [← h3]; simp only [VRel]; rfl, by rw [h2]; exact Moves.refl R⟩
    | slice bi ver path t' off len cap =>
      cases cap with
      | none => simp [mCap] at h1
      | some c0 =>
        have h3 := Option.some.inj h1
        simp only [VRel] at hx
        obtain ⟨a, c, rfl, hi, hv, hlen, hcap, _⟩ := hx
        have := hcap c0 rfl
        subst this
        exact ⟨goInt c, by simp [builtin, Builtin.cap_, ht, run_underlying hu w], hK, by rw [← h3]; simp only [VRel]; rfl, by rw [h2]; exact Moves.refl R⟩
    | _ => simp [mCap] at h1
  · rename_i x
    simp only [VRc] at has
    obtain ⟨xv, l, rfl, hx, rfl⟩ := has
    obtain ⟨t, ht, he⟩ := opt he
    obtain ⟨i, hi, he⟩ := wty he
    obtain ⟨e, hel, he⟩ := opt he
    obtain ⟨el, he1, he⟩ := wty he
    obtain ⟨hu, _⟩ := T.elem t i e hi hel
    obtain ⟨r, hr, hK⟩ := evs he
    obtain ⟨w', y, h1, h2, h3⟩ := clear_sound T R (ty := ty) ht hu he1 hx (show mClear el.ty el.zero x h = some (r.1, r.2) from hr)
    exact ⟨r, E, w', y, by simp [builtin, h1], hK, h2, h3⟩
  · obtain ⟨r, hr, hK⟩ := evs he
    obtain ⟨E', w', y, h1, h2, h3⟩ := builtin_sound T R (ty := ty) (consts := consts) has (show evBuiltin C _ ats _ h = some (r.1, r.2) from hr)
    exact ⟨r, E', w', y, h1, hK, h2, h3⟩

end

end Go.Vab

/-
  What code comes to, by relation: operations in a world, lists of them, code, bodies.
-/
namespace Go.Vab
open Go

section
variable {P : Program} {C : Ctx} (T : TTok P C.tt) {E : Gh} {h : Heap} {w : World} (R : RelHeap E h w)
include T R

theorem opW_wp {V : Operand → AV} {a : Act} (hV : ∀ x, VRel E (V x) (a.eval x)) {o : Oper} {K : AV × Heap → Prop} (he : opW P C V h o.op K) {K' : Act → World → Prop} {Q : Exit → Act → World → Prop}
    (hK : ∀ r E' w' x, K r → VRel E' r.1 x → Moves E h w E' r.2 w' → K' (a.put o.dst x) w') : o.wp P a w K' Q := by
  have plain : (∀ c, o.op ≠ .call c) → Evs (evOp C false V h o.op) K → o.wp P a w K' Q := by
    rintro hnc ⟨r, hr, hk⟩
    obtain ⟨E', w', n, x, h1, h2, h3, h4⟩ := evOp_sound T R hV (show evOp C false V h o.op = some (r.1, r.2) from hr) (fun c f hc => absurd hc (hnc c))
    unfold Oper.wp
    rw [h1]
    rcases h2 with rfl | ⟨rfl, rfl⟩
    · rw [Oper.upon_value]; exact hK r E' w' x hk h3 h4
    · rw [Oper.upon_skip]; exact hK r E' w' _ hk h3 h4
  cases hop : o.op with
  | call c =>
    rw [hop] at he
    simp only [opW] at he
    cases hc : c.callee with
    | value f =>
      rw [hc] at he
      have hf := hV f
      cases hfv : V f with
      | fn g caps =>
        simp only [hfv] at he
        rw [hfv] at hf
        simp only [VRel] at hf
        obtain ⟨cs, hcs, hr⟩ := hf
        have e : (c.args.toList.map a.eval ++ cs).toArray = c.args.map a.eval ++ cs.toArray := by apply Array.ext'; simp
        rcases he E w _ R (VRc.app _ _ _ _ (VRc.map hV c.args.toList) hr) with ⟨⟨fn, hfn, hname, hbody⟩, hcalls⟩ | ⟨x, w', r, E', h1, h2, h3, h4⟩
        · unfold Oper.wp
          have hrun : (execOp a.eval o).run P w = .ok (.enter g (c.args.map a.eval ++ cs.toArray)) w := by
            simp only [execOp, hop, resolve, hc, hcs, Deferred.ofValue, Sem.run_bind, Sem.run_pure, Result.andThen_ok, invoke, callFunc, run_program, hfn, hname, hbody, Bool.false_eq_true, if_false, Array.empty_append]
          rw [hrun, Oper.upon_enter, ← e]
          refine hcalls.mono fun en w' hp => ?_
          obtain ⟨r, E', x, h1, rfl, h2, h3⟩ := hp
          exact hK r E' w' x h1 h2 h3
        · unfold Oper.wp
          have hrun : (execOp a.eval o).run P w = .ok (.value x) w' := by
            simp only [execOp, hop, resolve, hc, hcs, Deferred.ofValue, Sem.run_bind, Sem.run_pure, Result.andThen_ok, invoke, Array.empty_append]
            rw [← e]; exact h1
          rw [hrun, Oper.upon_value]
          exact hK r E' w' x h2 h3 h4
      | _ => simp only [hfv] at he
    | builtin b =>
      rw [hc] at he
      obtain ⟨r, E', w', y, h1, h2, h3, h4⟩ := bW_sound T R (ty := o.type) (consts := c.args.map fun | .const _ => true | _ => false) (makeFunc_rel hV _) he
      unfold Oper.wp
      have hrun : (execOp a.eval o).run P w = .ok (.value y) w' := by
        simp only [execOp, hop, resolve, hc, Sem.run_bind, Sem.run_pure, Result.andThen_ok, invoke]
        have e : (c.args.toList.map a.eval).toArray = c.args.map a.eval := by apply Array.ext'; simp
        rw [e] at h1
        exact h1
      rw [hrun, Oper.upon_value]
      exact hK r E' w' y h2 h3 h4
    | _ => rw [hc] at he; exact he.elim
  | makeMap t r =>
    cases r with
    | some r => exact plain (by rw [hop]; simp) (by rw [hop] at he ⊢; exact he)
    | none =>
      rw [hop] at he
      obtain ⟨r, hr, hk⟩ := he
      obtain ⟨hT, hr⟩ := ifT_some hr
      obtain ⟨E', h1, h2⟩ := mkMap_sound R hr
      unfold Oper.wp
      have hrun : (execOp a.eval o).run P w = .ok (.value (.map (some w.heap.size))) (w.alloc (.map #[] 0)) := by
        simp only [execOp, hop, Option.map_none, Sem.run_bind, Go.RowKit.run_makeMap, Result.andThen_ok, Sem.run_pure]
      rw [hrun, Oper.upon_value]
      exact hK r E' _ _ hk h1 h2
  | lookup t m k ok =>
    cases ok with
    | true => exact plain (by rw [hop]; simp) (by rw [hop] at he ⊢; exact he)
    | false =>
      rw [hop] at he
      obtain ⟨r, hr, hk⟩ := he
      unfold pureV at hr
      obtain ⟨v, hv, e⟩ := bnd_eq_some.1 hr
      cases e
      obtain ⟨hT, hv⟩ := ifT_some hv
      obtain ⟨x, h1, h2⟩ := look_sound R hT (hV m) (hV k) hv
      unfold Oper.wp
      have hrun : (execOp a.eval o).run P w = .ok (.value x) w := by
        simp only [execOp, hop, Sem.run_bind, h1, Result.andThen_ok, Sem.run_pure]
      rw [hrun, Oper.upon_value]
      exact hK _ E w x hk h2 (Moves.refl R)
  | mapUpdate t m k x =>
    rw [hop] at he
    obtain ⟨r, hr, hk⟩ := he
    obtain ⟨hT, hr⟩ := ifT_some hr
    obtain ⟨h0, w', h1, h2⟩ := upd_sound R hT (hV m) (hV k) (hV x) hr
    unfold Oper.wp
    have hrun : (execOp a.eval o).run P w = .ok .skip w' := by
      simp only [execOp, hop, Sem.run_bind, h1, Result.andThen_ok, Sem.run_pure]
    rw [hrun, Oper.upon_skip]
    exact hK r E w' _ hk (by rw [h0]; simp only [VRel]) h2
  | _ => exact plain (by rw [hop]; simp) (by rw [hop] at he ⊢; exact he)

theorem oneW_wp {ops : Array Oper} {o : Oper} {σ : Nat → AV} {a : Act} (hL : ∀ t, VRel E (σ t) (a.tmps.getD t Go.undef)) {K : AV × Heap → Prop} (he : oneW P C ops.toList o σ h K)
    {K' : Act → World → Prop} {Q : Exit → Act → World → Prop} (hK : ∀ r E' w' x, K r → VRel E' r.1 x → Moves E h w E' r.2 w' → K' (a.put o.dst x) w') :
    if Region.wanted o (yielded ops a.tmps) then o.wp P a w K' Q ∨ (o.asks P a w ∧ LetsOut Q) else K' (a.put o.dst Go.undef) w := by
  have hV := opvF_rel hL
  have skip : K (.undef, h) → K' (a.put o.dst Go.undef) w := fun h1 => hK _ E w _ h1 (by simp only [VRel]) (Moves.refl R)
  cases hg : o.guard with
  | none =>
    simp only [Region.wanted, hg, if_true]
    simp only [oneW, hg] at he
    exact .inl (opW_wp T R hV he hK)
  | some p =>
    obtain ⟨j, want⟩ := p
    simp only [oneW, hg] at he
    cases hd : dstOf ops.toList j with
    | none => rw [hd] at he; exact he.elim
    | some d =>
      rw [hd] at he
      have hy : yielded ops a.tmps j = match a.tmps[d]? with | some (.bool b) => some b | _ => none := by
        unfold dstOf at hd
        rw [Array.getElem?_toList] at hd
        unfold yielded
        cases hj : ops[j]? with
        | none => rw [hj] at hd; cases hd
        | some oj =>
          rw [hj] at hd; simp only at hd; simp only [Option.bind_some, hd]
          cases a.tmps[d]? with
          | none => rfl
          | some z => cases z <;> rfl
      have hl := hL d
      replace he : gW (σ d) want (opW P C (opvF σ) h o.op) h K := he
      unfold gW at he
      split at he
      · rename_i b hb
        rw [hb] at hl; simp only [VRel] at hl
        have hb2 : a.tmps[d]? = some (.bool b) := by
          rw [Array.getD_eq_getD_getElem?] at hl
          cases hq : a.tmps[d]? with
          | none => rw [hq] at hl; simp [Go.undef] at hl
          | some z => rw [hq] at hl; simp only [Option.getD_some] at hl; rw [hl]
        rw [hb2] at hy
        simp only at hy
        split at he
        · rename_i hbw
          subst hbw
          simp only [Region.wanted, hg, hy, beq_self_eq_true, if_true]
          exact .inl (opW_wp T R hV he hK)
        · rename_i hbw
          have : (some b == some want) = false := by simpa using hbw
          simp only [Region.wanted, hg, hy, this, Bool.false_eq_true, if_false]
          exact skip he
      · rename_i hb
        rw [hb] at hl; simp only [VRel] at hl
        have hyn : yielded ops a.tmps j = none := by
          rw [hy]
          rw [Array.getD_eq_getD_getElem?] at hl
          cases hq : a.tmps[d]? with
          | none => rfl
          | some z => rw [hq] at hl; simp only [Option.getD_some] at hl; rw [hl]; rfl
        simp only [Region.wanted, hg, hyn]
        exact skip he
      · cases he

end

/-- The operations of a region in the text's order, with what follows. -/
def opsW (P : Program) (C : Ctx) (ops : List Oper) (k : Env → Heap → Prop) : List Oper → Env → Env → Heap → Prop
  | [], loc, env, h => k (commit C.vol loc env) h
  | o :: os, loc, env, h => oneW P C ops o (look loc env) h fun r => match o.dst with
    | some d => d < C.ntmps ∧ opsW P C ops k os ((d, r.1) :: loc) env r.2
    | none => opsW P C ops k os loc env r.2

theorem opsW_wp {P : Program} {C : Ctx} (T : TTok P C.tt) {ops : Array Oper} {Q : Exit → Act → World → Prop} {k : Env → Heap → Prop} : ∀ (os : List Oper) (loc env : Env) (E : Gh) (h : Heap) (w : World) (a : Act),
    RelHeap E h w → LocR E loc env a → VolFree C.vol env → a.tmps.size = C.ntmps → opsW P C ops.toList k os loc env h →
    (∀ e g E' w' a', k e g → EnvR E' e a' → VolFree C.vol e → Moves E h w E' g w' → a'.defers = a.defers → a'.tmps.size = C.ntmps → Q .normal a' w') → wpList P ops Q os a w
  | [], loc, env, E, h, w, a, R, hL, hv, hn, he, hQ => by
    obtain ⟨h1, h2⟩ := EnvR.commit hL hv
    exact hQ _ h E w a he h1 h2 (Moves.refl R) rfl hn
  | o :: os, loc, env, E, h, w, a, R, hL, hv, hn, he, hQ => by
    simp only [opsW] at he
    unfold wpList
    refine oneW_wp T R hL he (fun r E' w' x hk hx hm => ?_)
    cases hd : o.dst with
    | none =>
      rw [hd] at hk
      exact opsW_wp T os loc env E' r.2 w' _ hm.rel (hL.ext hm.ext) hv hn hk fun e g E'' w'' a'' g0 g1 g2 g3 g4 g5 => hQ e g E'' w'' a'' g0 g1 g2 (hm.trans g3) g4 g5
    | some d =>
      rw [hd] at hk
      obtain ⟨hlt, hk⟩ := hk
      exact opsW_wp T os ((d, r.1) :: loc) env E' r.2 w' _ hm.rel (hL.put hm.ext hx (by rw [hn]; exact hlt)) hv (by rw [Act.put_size]; exact hn) hk fun e g E'' w'' a'' g0 g1 g2 g3 g4 g5 => hQ e g E'' w'' a'' g0 g1 g2 (hm.trans g3) (by rw [g4, Act.put_defers]) g5

theorem opsW_mono {P : Program} {C : Ctx} {ops : List Oper} {k k' : Env → Heap → Prop} (hk : ∀ e g, k e g → k' e g) : ∀ (os : List Oper) (loc env : Env) (h : Heap), opsW P C ops k os loc env h → opsW P C ops k' os loc env h
  | [], _, _, _, h => hk _ _ h
  | o :: os, loc, env, h, he => by
    simp only [opsW] at he ⊢
    refine oneW_mono _ _ (fun r hr => ?_) he
    cases hd : o.dst with
    | none => rw [hd] at hr; exact opsW_mono hk os _ _ _ hr
    | some d => rw [hd] at hr; exact ⟨hr.1, opsW_mono hk os _ _ _ hr.2⟩

/-- Every order, and every outcome. -/
def AnyW (P : Program) (C : Ctx) (ops : Array Oper) (q : (Nat → AV) → Heap → Prop) : Nat → Array Bool → (Nat → AV) → Heap → Prop
  | 0, listed, σ, h => readyF ops listed = [] ∧ q σ h
  | n + 1, listed, σ, h => (readyF ops listed = [] → q σ h) ∧ ∀ i ∈ readyF ops listed, ∀ o, ops[i]? = some o →
      oneW P C ops.toList o σ h fun r => (match o.dst with | some d => d < C.ntmps | none => True) ∧ AnyW P C ops q n (listed.setIfInBounds i true) (setF σ o.dst r.1) r.2

theorem anyW_wp {P : Program} {C : Ctx} (T : TTok P C.tt) {ops : Array Oper} {Q : Exit → Act → World → Prop} {q : (Nat → AV) → Heap → Prop} : ∀ (n : Nat) (listed : Array Bool) (σ : Nat → AV) (h : Heap) (E : Gh) (w : World) (a : Act),
    RelHeap E h w → (∀ t, VRel E (σ t) (a.tmps.getD t Go.undef)) → a.tmps.size = C.ntmps → AnyW P C ops q n listed σ h →
    (∀ σ' h' E' w' a', q σ' h' → (∀ t, VRel E' (σ' t) (a'.tmps.getD t Go.undef)) → Moves E h w E' h' w' → a'.defers = a.defers → a'.tmps.size = C.ntmps → Q .normal a' w') → wpAny P .any ops Q n listed a w
  | 0, listed, σ, h, E, w, a, R, hL, hn, he, hQ => by
    simp only [AnyW] at he
    exact ⟨he.1, hQ σ h E w a he.2 hL (Moves.refl R) rfl hn⟩
  | n + 1, listed, σ, h, E, w, a, R, hL, hn, he, hQ => by
    simp only [AnyW] at he
    refine ⟨fun h0 => hQ σ h E w a (he.1 h0) hL (Moves.refl R) rfl hn, fun i hi => ?_⟩
    have hi2 := hi
    unfold wpOp
    cases ho : ops[i]? with
    | none =>
      exfalso
      unfold Region.ready at hi
      rw [List.mem_filter] at hi
      have := List.mem_range.1 hi.1
      rw [Array.getElem?_eq_none_iff] at ho
      omega
    | some o =>
      simp only
      refine oneW_wp T R hL (he.2 i hi2 o ho) (fun r E' w' x hk hx hm => ?_)
      obtain ⟨hlt, hk⟩ := hk
      refine anyW_wp T n _ _ r.2 E' w' _ hm.rel (fun t => ?_) (by rw [Act.put_size]; exact hn) hk fun σ' h' E'' w'' a'' g0 g1 g2 g3 g4 => hQ σ' h' E'' w'' a'' g0 g1 (hm.trans g2) (by rw [g3, Act.put_defers]) g4
      cases hd : o.dst with
      | none => exact VRel.mono hm.ext _ _ (hL t)
      | some d =>
        rw [hd] at hlt
        simp only at hlt
        simp only [setF, updF, Act.put]
        by_cases e : t = d
        · subst e
          rw [if_pos rfl]
          have : t < a.tmps.size := by rw [hn]; exact hlt
          simpa [Array.getD, this] using hx
        · rw [if_neg e]
          have e2 : (a.tmps.setIfInBounds d x).getD t Go.undef = a.tmps.getD t Go.undef := by
            simp only [Array.getD_eq_getD_getElem?]
            rw [Array.getElem?_setIfInBounds_ne (fun q => e q.symm)]
          rw [e2]; exact VRel.mono hm.ext _ _ (hL t)

/-- The region's end: what is kept. -/
def EndW (C : Ctx) (k : Env → Heap → Prop) (σ : Nat → AV) (h : Heap) : Prop := ∃ e, k e h ∧ VolFree C.vol e ∧ ∀ t, C.vol.contains t = false → σ t = e.get t

def drawW (P : Program) (C : Ctx) (ops : Array Oper) (k : Env → Heap → Prop) (env : Env) (h : Heap) : Prop := VolFree C.vol env → AnyW P C ops (EndW C k) ops.size (Array.replicate ops.size false) env.get h

theorem drawW_wp {P : Program} {C : Ctx} (T : TTok P C.tt) (hm : P.follows .mixedOrders = true) {ops : Array Oper} {Q : Exit → Act → World → Prop} {k : Env → Heap → Prop} {env : Env} {E : Gh} {h : Heap} {w : World} {a : Act} {id : Nat}
    (R : RelHeap E h w) (hL : EnvR E env a) (hv : VolFree C.vol env) (hn : a.tmps.size = C.ntmps) (hok : drawW P C ops k env h)
    (hQ : ∀ e g E' w' a', k e g → EnvR E' e a' → VolFree C.vol e → Moves E h w E' g w' → a'.defers = a.defers → a'.tmps.size = C.ntmps → Q .normal a' w') : (Code.region id ops true).wp P Q a w := by
  refine wp_region_any hm ?_
  have R' : RelHeap E h { w with drawn := w.drawn + 1 } := ⟨R.n, fun i b hb => ⟨(R.at_ i b hb).ver, (R.at_ i b hb).fits, (R.at_ i b hb).mp, (R.at_ i b hb).body, (R.at_ i b hb).grow⟩, R.inj⟩
  refine anyW_wp T ops.size _ env.get h E _ a R' hL hn (hok hv) fun σ' h' E' w' a' hs g1 g2 g3 g4 => ?_
  obtain ⟨e, q0, q1, q2⟩ := hs
  refine hQ e h' E' w' a' q0 (fun t => ?_) q1 ⟨g2.ext, g2.rel, g2.size, g2.keep, g2.img, g2.io.os, g2.io.tape, g2.io.output⟩ g3 g4
  by_cases ht : C.vol.contains t = true
  · rw [q1 t ht]; simp only [VRel]
  · have := g1 t
    rw [q2 t (by simpa using ht)] at this
    exact this

/-- What follows. -/
def sqW (g : (Ex × St → Prop) → St → Prop) (Q : Ex × St → Prop) (r : Ex × St) : Prop := match r.1 with
  | .nrm => g Q r.2
  | .exit id => Q (.exit id, r.2)
  | .ret => Q (.ret, r.2)

@[simp] theorem sqW_nrm (g : (Ex × St → Prop) → St → Prop) (Q : Ex × St → Prop) (s : St) : sqW g Q (.nrm, s) = g Q s := rfl
@[simp] theorem sqW_exit (g : (Ex × St → Prop) → St → Prop) (Q : Ex × St → Prop) (id : Nat) (s : St) : sqW g Q (.exit id, s) = Q (.exit id, s) := rfl
@[simp] theorem sqW_ret (g : (Ex × St → Prop) → St → Prop) (Q : Ex × St → Prop) (s : St) : sqW g Q (.ret, s) = Q (.ret, s) := rfl

/-- A loop: something that holds ahead of each round, and a measure. -/
def loopW (g : (Ex × St → Prop) → St → Prop) (Q : Ex × St → Prop) (s : St) : Prop :=
  ∃ (I : Nat → St → Prop) (n : Nat), I n s ∧ ∀ n s, I n s → g (fun r => (r.1 = .nrm ∧ ∃ m, m < n ∧ I m r.2) ∨ (r.1 ≠ .nrm ∧ Q r)) s

def cndW (v : AV) (x y : Prop) : Prop := match v with
  | .bool t => if t = true then x else y
  | _ => False

@[simp] theorem cndW_bool (t : Bool) (x y : Prop) : cndW (.bool t) x y = if t = true then x else y := rfl

def wC (P : Program) (C : Ctx) : Code → (Ex × St → Prop) → St → Prop
  | .skip, Q, s => Q (.nrm, s)
  | .region _ ops false, Q, s => opsW P C ops.toList (fun e g => Q (.nrm, ⟨e, g⟩)) ops.toList [] s.env s.heap
  | .region _ ops true, Q, s => drawW P C ops (fun e g => Q (.nrm, ⟨e, g⟩)) s.env s.heap
  | .seq a b, Q, s => wC P C a (sqW (wC P C b) Q) s
  | .cond c a b, Q, s => cndW (opv [] s.env c) (wC P C a Q s) (wC P C b Q s)
  | .block id c, Q, s => wC P C c (fun r => Q (inBlk id r)) s
  | .loop c, Q, s => loopW (wC P C c) Q s
  | .exit id, Q, s => Q (.exit id, s)
  | .ret, Q, s => Q (.ret, s)
  | _, _, _ => False

def PostW (C : Ctx) (E : Gh) (h : Heap) (w : World) (Q : Ex × St → Prop) (e : Exit) (a' : Act) (w' : World) : Prop :=
  ∃ ex s', Q (ex, s') ∧ Post C E h w ex s' e a' w'

theorem wC_sound {P : Program} {C : Ctx} (T : TTok P C.tt) (hm : P.follows .mixedOrders = true) : ∀ (c : Code) (Q : Ex × St → Prop) (s : St), wC P C c Q s →
    ∀ (E : Gh) (w : World) (a : Act), RelHeap E s.heap w → EnvR E s.env a → VolFree C.vol s.env → a.defers = [] → a.tmps.size = C.ntmps → c.wp P (PostW C E s.heap w Q) a w
  | .skip, Q, s, he, E, w, a, R, hL, hv, hd, hn => wp_skip ⟨.nrm, s, he, rfl, E, Moves.refl R, hL, hv, hd, hn⟩
  | .exit id, Q, s, he, E, w, a, R, hL, hv, hd, hn => wp_exit ⟨.exit id, s, he, rfl, E, Moves.refl R, hL, hv, hd, hn⟩
  | .ret, Q, s, he, E, w, a, R, hL, hv, hd, hn => wp_ret ⟨.ret, s, he, rfl, E, Moves.refl R, hL, hv, hd, hn⟩
  | .region id ops false, Q, s, he, E, w, a, R, hL, hv, hd, hn =>
    wp_region_list (opsW_wp T ops.toList [] s.env E s.heap w a R (fun t => by rw [look_nil]; exact hL t) hv hn he fun e g E' w' a' g0 g1 g2 g3 g4 g5 => ⟨.nrm, ⟨e, g⟩, g0, rfl, E', g3, g1, g2, by rw [g4, hd], g5⟩)
  | .region id ops true, Q, s, he, E, w, a, R, hL, hv, hd, hn =>
    drawW_wp T hm R hL hv hn he fun e g E' w' a' g0 g1 g2 g3 g4 g5 => ⟨.nrm, ⟨e, g⟩, g0, rfl, E', g3, g1, g2, by rw [g4, hd], g5⟩
  | .seq x y, Q, s, he, E, w, a, R, hL, hv, hd, hn => by
    refine wp_seq (wp_mono (wC_sound T hm x _ s he E w a R hL hv hd hn) fun e a' w' hp => ?_)
    obtain ⟨ex, s1, hq, rfl, E', m, g1, g2, g3, g4⟩ := hp
    cases ex with
    | nrm =>
      simp only [Ex.out, Exit.then]
      refine wp_mono (wC_sound T hm y Q s1 hq E' w' a' m.rel g1 g2 g3 g4) fun e2 a2 w2 hq => ?_
      obtain ⟨ex2, s2, q0, q1, E2, q2, q3⟩ := hq
      exact ⟨ex2, s2, q0, q1, E2, m.trans q2, q3⟩
    | exit id => exact ⟨.exit id, s1, hq, rfl, E', m, g1, g2, g3, g4⟩
    | ret => exact ⟨.ret, s1, hq, rfl, E', m, g1, g2, g3, g4⟩
  | .cond c x y, Q, s, he, E, w, a, R, hL, hv, hd, hn => by
    simp only [wC] at he
    unfold cndW at he
    split at he
    · rename_i t ht
      have hc : a.eval c = .bool t := by
        have := opv_rel (loc := []) (fun t => by rw [look_nil]; exact hL t) c
        rw [ht] at this; simpa only [VRel] using this
      refine wp_cond hc ?_
      cases t
      · simp only [Bool.false_eq_true, if_false] at he ⊢
        exact wC_sound T hm y Q s he E w a R hL hv hd hn
      · simp only [if_true] at he ⊢
        exact wC_sound T hm x Q s he E w a R hL hv hd hn
    · cases he
  | .block id c, Q, s, he, E, w, a, R, hL, hv, hd, hn => by
    refine wp_block (wp_mono (wC_sound T hm c _ s he E w a R hL hv hd hn) fun e a' w' hp => ?_)
    obtain ⟨ex, s1, hq, rfl, E', m, g1, g2, g3, g4⟩ := hp
    cases ex with
    | nrm => exact ⟨.nrm, s1, hq, rfl, E', m, g1, g2, g3, g4⟩
    | ret => exact ⟨.ret, s1, hq, rfl, E', m, g1, g2, g3, g4⟩
    | exit j =>
      simp only [Ex.out, Exit.inBlock]
      by_cases hj : j = id
      · rw [if_pos hj]
        simp only [inBlk, if_pos hj] at hq
        exact ⟨.nrm, s1, hq, rfl, E', m, g1, g2, g3, g4⟩
      · rw [if_neg hj]
        simp only [inBlk, if_neg hj] at hq
        exact ⟨.exit j, s1, hq, rfl, E', m, g1, g2, g3, g4⟩
  | .loop c, Q, s, he, E, w, a, R, hL, hv, hd, hn => by
    obtain ⟨I, n, hI, step⟩ := he
    obtain ⟨w0, hw0⟩ : ∃ w0, w0 = w := ⟨w, rfl⟩
    have key : ∀ (n : Nat) (s1 : St) (E1 : Gh) (w1 : World) (a1 : Act), I n s1 → Moves E s.heap w0 E1 s1.heap w1 → EnvR E1 s1.env a1 → VolFree C.vol s1.env → a1.defers = [] → a1.tmps.size = C.ntmps →
        Code.rounds P c (PostW C E s.heap w0 Q) (n + 1) a1 w1 := by
      intro n
      induction n using Nat.strongRecOn with
      | _ n ih =>
        intro s1 E1 w1 a1 hI1 m1 hL1 hv1 hd1 hn1
        rw [rounds_succ]
        refine wp_mono (wC_sound T hm c _ s1 (step n s1 hI1) E1 w1 a1 m1.rel hL1 hv1 hd1 hn1) fun e a' w' hp => ?_
        obtain ⟨ex, s2, hq, rfl, E', m, g1, g2, g3, g4⟩ := hp
        rcases hq with ⟨h1, k, hk, hI2⟩ | ⟨h1, hq⟩
        · simp only at h1; subst h1
          simp only [Ex.out, Exit.then]
          have := ih k hk s2 E' w' a' hI2 (m1.trans m) g1 g2 g3 g4
          -- fewer rounds are some of more
          have mono : ∀ (j d : Nat) (a : Act) (w : World), Code.rounds P c (PostW C E s.heap w0 Q) j a w → Code.rounds P c (PostW C E s.heap w0 Q) (j + d) a w := by
            intro j
            induction j with
            | zero => intro d a w h; simp only [Code.rounds] at h
            | succ j ihj =>
              intro d a w h
              rw [show j + 1 + d = (j + d) + 1 by omega, rounds_succ]
              rw [rounds_succ] at h
              refine wp_mono h fun e a2 w2 hq => ?_
              cases e <;> simp only [Exit.then] at hq ⊢
              · exact ihj d a2 w2 hq
              all_goals exact hq
          have := mono (k + 1) (n - (k + 1)) a' w' this
          rwa [show k + 1 + (n - (k + 1)) = n by omega] at this
        · cases ex with
          | nrm => exact absurd rfl h1
          | exit id => exact ⟨.exit id, s2, hq, rfl, E', m1.trans m, g1, g2, g3, g4⟩
          | ret => exact ⟨.ret, s2, hq, rfl, E', m1.trans m, g1, g2, g3, g4⟩
    have fin := key n s E w a hI (by rw [hw0]; exact Moves.refl R) hL hv hd hn
    rw [hw0] at fin
    exact wp_loop_rounds (n + 1) fin
  | .rangeFunc .., _, _, he, _, _, _, _, _, _, _, _ => he.elim
  | .scope _, _, _, he, _, _, _, _, _, _, _, _ => he.elim
  | .label _, _, _, he, _, _, _, _, _, _, _, _ => he.elim
  | .goto _, _, _, he, _, _, _, _, _, _, _, _ => he.elim
  | .refuse _, _, _, he, _, _, _, _, _, _, _, _ => he.elim

def retW (rs : St → Option (List AV)) (K : AV × Heap → Prop) (r : Ex × St) : Prop := match r.1 with
  | .exit _ => False
  | _ => Evs (rs r.2) fun vs => K (oneOrTuple vs, r.2.heap)

@[simp] theorem retW_nrm (rs : St → Option (List AV)) (K : AV × Heap → Prop) (s : St) : retW rs K (.nrm, s) = Evs (rs s) fun vs => K (oneOrTuple vs, s.heap) := rfl
@[simp] theorem retW_ret (rs : St → Option (List AV)) (K : AV × Heap → Prop) (s : St) : retW rs K (.ret, s) = Evs (rs s) fun vs => K (oneOrTuple vs, s.heap) := rfl

theorem bodyW_sound {P : Program} {C : Ctx} (T : TTok P C.tt) (hm : P.follows .mixedOrders = true) {f : Nat} {fn : Func} {body : Code} (hf : P.funcs[f]? = some fn) (hname : (fn.name == "runtime.NumGoroutine") = false) (hb : fn.body = some body) (hnt : fn.ntmps = C.ntmps)
    {args : List AV} {h : Heap} {K : AV × Heap → Prop} (hvol : (C.vol.all fun t => decide (args.length ≤ t)) = true) (hlen : args.length ≤ C.ntmps)
    (he : wC P C body (retW (fun s => resAll C s fn.results.toList) K) ⟨env0 C args, h⟩) : SpecQ P f args h K := by
  intro E w xs R hxs
  have hxl := VRc.length args xs hxs
  refine .inl ⟨⟨fn, hf, hname, by rw [hb]; rfl⟩, calls_of_wp hf hb ?_⟩
  have hL : EnvR E (env0 C args) { tmps := xs.toArray ++ Array.replicate (fn.ntmps - xs.toArray.size) Go.undef, defers := [] } := by
    intro t
    rw [env0_get, enumFrom_get]
    simp only [Nat.zero_le, if_true, Nat.sub_zero]
    split
    · rename_i v hv
      obtain ⟨y, hy, hr⟩ := VRc.get args xs t v hxs hv
      have : (xs.toArray ++ Array.replicate (fn.ntmps - xs.toArray.size) Go.undef).getD t Go.undef = y := by
        rw [Array.getD_eq_getD_getElem?, Array.getElem?_append_left (by simp; exact (List.getElem?_eq_some_iff.1 hy).1)]
        simp [hy]
      rw [this]; exact hr
    · simp only [VRel]
  have hv : VolFree C.vol (env0 C args) := by
    intro t ht
    rw [env0_get, enumFrom_get]
    simp only [Nat.zero_le, if_true, Nat.sub_zero]
    have := (List.all_eq_true.1 hvol) t (by simpa using ht)
    rw [List.getElem?_eq_none (by simpa using this)]
  refine wp_mono (wC_sound T hm body _ _ he E w _ R hL hv rfl (by simp; omega)) fun e a' w' hp => ?_
  obtain ⟨ex, s, hq, rfl, E', m, g1, g2, g3, g4⟩ := hp
  have fin : ∀ vs, resAll C s fn.results.toList = some vs → K (oneOrTuple vs, s.heap) → ∃ x, (results fn a'.tmps).run P w' = .ok x w' ∧ VRel E' (oneOrTuple vs) x := by
    intro vs hvs _
    obtain ⟨ys, q1, q2⟩ := resAll_sound T m.rel g1 fn.results.toList vs hvs
    have hrun : (results fn a'.tmps).run P w' = .ok (if hs : ys.toArray.size = 1 then ys.toArray[0] else .tuple ys.toArray) w' := by
      have e1 : (fn.results.mapM (resFn a'.tmps)).run P w' = .ok ys.toArray w' := by
        rw [Array.mapM_eq_mapM_toList]
        simp [q1]
      have e2 : (results fn a'.tmps).run P w' = ((fn.results.mapM (resFn a'.tmps)).run P w').andThen fun vs w => .ok (if hs : vs.size = 1 then vs[0] else .tuple vs) w := by
        unfold results
        rw [Sem.run_bind]
        rfl
      rw [e2, e1]
      rfl
    refine ⟨_, hrun, ?_⟩
    match vs, ys, q2 with
    | [], ys, q2 => simp only [VRc] at q2; subst q2; simp only [oneOrTuple, VRel]; exact ⟨[], by simp, by simp only [VRc]⟩
    | [v], ys, q2 =>
      simp only [VRc] at q2
      obtain ⟨y, l, rfl, z1, rfl⟩ := q2
      simpa [oneOrTuple] using z1
    | v1 :: v2 :: vs, ys, q2 =>
      have := VRc.length _ _ q2
      have hne : ¬ ys.toArray.size = 1 := by simp at this ⊢; omega
      rw [dif_neg hne]
      simp only [oneOrTuple, VRel]; exact ⟨ys, rfl, q2⟩
  have fin2 : (Evs (resAll C s fn.results.toList) fun vs => K (oneOrTuple vs, s.heap)) → bodyPost P fn (fun e w' => ∃ r E' x, K r ∧ e = .returned x ∧ VRel E' r.1 x ∧ Moves E h w E' r.2 w') .normal a' w' := by
    rintro ⟨vs, h1, h2⟩
    obtain ⟨x, q1, q2⟩ := fin vs h1 h2
    exact ⟨g3, x, q1, _, E', x, h2, rfl, q2, m⟩
  cases ex with
  | exit id => exact hq.elim
  | nrm => exact fin2 hq
  | ret => exact fin2 hq

end Go.Vab

/-
  A statement whose order is open: effects in every order that may be, what is only read as early as may be, with a look whether it stays.
-/
namespace Go.Vab
open Go

theorem bW_congr {C : Ctx} {b : Builtin} {ats : Array TypeId} {as bs : List AV} (h : as = bs) (g : Heap) : bW C b ats as g = bW C b ats bs g := by rw [h]

theorem opW_congr {P : Program} {C : Ctx} {V V' : Operand → AV} {h : Heap} (op : Op) (hV : ∀ x ∈ op.operands.toList, V x = V' x) : opW P C V h op = opW P C V' h op := by
  cases op with
  | call c =>
    have hargs : c.args.toList.map V = c.args.toList.map V' := List.map_congr_left fun x hx => hV x (by simp only [Op.operands, Call.operands]; split <;> simp <;> simp at hx <;> simp [hx])
    simp only [opW, hargs]
    cases hc : c.callee with
    | value f =>
      have : V f = V' f := hV f (by simp [Op.operands, Call.operands, hc])
      simp only [this]
    | builtin b => rfl
    | _ => rfl
  | makeMap t r =>
    cases r with
    | none => rfl
    | some r => simp only [opW]; rw [evOp_congr _ hV]
  | lookup t m k ok =>
    cases ok with
    | true => simp only [opW]; rw [evOp_congr _ hV]
    | false => simp only [opW]; rw [hV m (by simp [Op.operands]), hV k (by simp [Op.operands])]
  | mapUpdate t m k x => simp only [opW]; rw [hV m (by simp [Op.operands]), hV k (by simp [Op.operands]), hV x (by simp [Op.operands])]
  | _ => simp only [opW]; rw [evOp_congr _ hV]

theorem oneW_congr {P : Program} {C : Ctx} {ops : List Oper} {o : Oper} {σ τ : Nat → AV} {h : Heap} (hr : ∀ t ∈ reads ops o, σ t = τ t) : oneW P C ops o σ h = oneW P C ops o τ h := by
  have hop : opW P C (opvF σ) h o.op = opW P C (opvF τ) h o.op := opW_congr _ fun x hx => opvF_congr fun t ht => hr t (by
    unfold reads
    refine List.mem_append_left _ (List.mem_filterMap.2 ⟨x, hx, ?_⟩)
    rw [ht])
  unfold oneW
  rw [hop]
  cases hg : o.guard with
  | none => rfl
  | some p =>
    obtain ⟨j, want⟩ := p
    simp only
    cases hd : dstOf ops j with
    | none => rfl
    | some d =>
      simp only
      rw [hr d (by unfold reads; rw [hg]; simp [hd])]

/-- A value, and nothing else. -/
def valW (P : Program) (C : Ctx) (ops : List Oper) (o : Oper) (σ : Nat → AV) (h : Heap) (v : AV) : Prop := oneW P C ops o σ h fun r => r = (v, h)

theorem valW_pure {P : Program} {C : Ctx} {ops : List Oper} {o : Oper} {σ : Nat → AV} {h : Heap} {v : AV} (hk : kindOf false o.op = .pure) (hv : valW P C ops o σ h v) (g : Heap) : valW P C ops o σ g v := by
  have key : ∀ V : Operand → AV, opW P C V h o.op (fun r => r = (v, h)) → opW P C V g o.op fun r => r = (v, g) := by
    intro V hV
    have plain : Evs (evOp C false V h o.op) (fun r => r = (v, h)) → Evs (evOp C false V g o.op) fun r => r = (v, g) := by
      rintro ⟨r, h1, rfl⟩
      exact ⟨(v, g), (evOp_pure (C := C) (q := false) (V := V) o.op hk h v h h1).2 g, rfl⟩
    cases hop : o.op with
    | call c =>
      rw [hop] at hV hk plain
      simp only [opW] at hV ⊢
      simp only [kindOf] at hk
      cases hc : c.callee with
      | value f => rw [hc] at hk; simp at hk
      | builtin b =>
        simp only [hc] at hV hk ⊢
        simp only [evOp, hc] at plain
        cases b <;> simp at hk <;> exact plain hV
      | _ => rw [hc] at hk; simp at hk
    | makeMap t r => rw [hop] at hk; simp [kindOf] at hk
    | lookup t m k ok => rw [hop] at hk; simp [kindOf] at hk
    | mapUpdate t m k x => rw [hop] at hk; simp [kindOf] at hk
    | _ => rw [hop] at hV plain; exact plain hV
  unfold valW oneW at hv ⊢
  cases hg : o.guard with
  | none => rw [hg] at hv; exact key _ hv
  | some p =>
    obtain ⟨j, want⟩ := p
    rw [hg] at hv
    simp only at hv ⊢
    cases hd : dstOf ops j with
    | none => rw [hd] at hv; exact hv.elim
    | some d =>
      rw [hd] at hv
      simp only at hv ⊢
      cases hσ : σ d with
      | bool b =>
        rw [hσ] at hv
        simp only [gW] at hv ⊢
        split at hv
        · rename_i hb; rw [if_pos hb]; exact key _ hv
        · rename_i hb; rw [if_neg hb]; cases hv; rfl
      | undef => rw [hσ] at hv; simp only [gW] at hv ⊢; cases hv; rfl
      | _ => rw [hσ] at hv; simp [gW] at hv

def pushL (loc : Env) (d : Option Nat) (v : AV) : Env := match d with
  | some d => (d, v) :: loc
  | none => loc

theorem look_push (loc env : Env) (d : Option Nat) (v : AV) (t : Nat) : look (pushL loc d v) env t = setF (look loc env) d v t := by
  cases d with
  | none => rfl
  | some d => simp only [pushL, look_cons, setF, updF]

def opI (ops : List Oper) (i : Nat) : Oper := match ops[i]? with | some o => o | none => default

def dstLt (C : Ctx) (o : Oper) : Prop := match o.dst with | some d => d < C.ntmps | none => True

section
variable (P : Program) (C : Ctx) (ops : List Oper) (env : Env)
/-- What is only read, one after the other. -/
def readsW (h : Heap) (k : Env → Prop) : List Nat → Env → Prop
  | [], loc => k loc
  | p :: ps, loc => ∃ v, valW P C ops (opI ops p) (look loc env) h v ∧ dstLt C (opI ops p) ∧ readsW h k ps (pushL loc (opI ops p).dst v)

def stabW (h : Heap) (loc : Env) : List Nat → Prop
  | [] => True
  | p :: ps => (∃ v, valW P C ops (opI ops p) (look loc env) h v ∧ ∀ d, (opI ops p).dst = some d → look loc env d = v) ∧ stabW h loc ps

def enabled (n : Nat) (eff : List Nat) (bs : List Nat) (S : List Nat) : List Nat := (List.range n).filter fun p => !eff.contains p && eff.all fun e => !bef bs p e || S.contains e
def nextE (eff : List Nat) (bs : List Nat) (S : List Nat) : List Nat := eff.filter fun e => !S.contains e && eff.all fun e' => !bef bs e e' || S.contains e'
def newE (n : Nat) (eff : List Nat) (bs : List Nat) (S : List Nat) (e : Nat) : List Nat := (enabled n eff bs (e :: S)).filter fun p => !(enabled n eff bs S).contains p
def stabE (n : Nat) (eff : List Nat) (bs : List Nat) (S : List Nat) (e : Nat) : List Nat := (enabled n eff bs S).filter fun p => !bef bs e p && !decide (kindOf false (opI ops p).op = .pure)

def allW {α : Type} (f : α → Prop) : List α → Prop
  | [] => True
  | [a] => f a
  | a :: b :: l => f a ∧ allW f (b :: l)

def effW (eff : List Nat) (bs : List Nat) (T : List Nat → Env → Heap → Prop) (S : List Nat) (loc : Env) (h : Heap) (e : Nat) : Prop :=
  oneW P C ops (opI ops e) (look loc env) h fun r => dstLt C (opI ops e) ∧ stabW P C ops env r.2 (pushL loc (opI ops e).dst r.1) (stabE ops ops.length eff bs S e) ∧
    readsW P C ops env r.2 (fun loc' => T (e :: S) loc' r.2) (newE ops.length eff bs S e) (pushL loc (opI ops e).dst r.1)

def treeW (eff : List Nat) (bs : List Nat) (k : Env → Heap → Prop) : Nat → List Nat → Env → Heap → Prop
  | 0, S, loc, h => nextE eff bs S = [] ∧ k (commit C.vol loc env) h
  | n + 1, S, loc, h => match nextE eff bs S with
    | [] => k (commit C.vol loc env) h
    | l => allW (effW P C ops env eff bs (treeW eff bs k n) S loc h) l
end

theorem allW_iff {α : Type} (f : α → Prop) : ∀ l : List α, allW f l ↔ ∀ a ∈ l, f a
  | [] => by simp [allW]
  | [a] => by simp [allW]
  | a :: b :: l => by simp only [allW, allW_iff f (b :: l)]; simp

structure TreeFacts (ops : List Oper) (eff : List Nat) (bs : Nat → Nat → Prop) : Prop where
  lt : ∀ i o, ops[i]? = some o → ∀ e ∈ o.after.toList, Region.binds .any e = true → e.on < i
  up : ∀ i o, ops[i]? = some o → ∀ p, bs i p → p < i ∧ ∃ e ∈ o.after.toList, Region.binds .any e = true ∧ (e.on = p ∨ bs e.on p)
  tr : ∀ i j k, i < ops.length → bs i j → bs j k → bs i k
  rd : ∀ i j, i < ops.length → j < ops.length → i ∉ eff → ∀ d, (opI ops i).dst = some d → d ∈ reads ops (opI ops j) → bs j i
  re : ∀ i j, i < ops.length → j < ops.length → i ≠ j → ∀ d, (opI ops i).dst = some d → d ∈ reads ops (opI ops j) → bs j i ∨ bs i j
  dd : ∀ i j, i < ops.length → j < ops.length → ∀ d, (opI ops i).dst = some d → (opI ops j).dst = some d → i = j
  ef : ∀ e ∈ eff, e < ops.length

section
variable {P : Program} {C : Ctx} {ops : List Oper} {env : Env}

theorem setF_ne {σ : Nat → AV} {d : Option Nat} {v : AV} {t : Nat} (h : d ≠ some t) : setF σ d v t = σ t := by
  cases d with
  | none => rfl
  | some d => simp only [setF, updF]; rw [if_neg]; rintro rfl; exact h rfl
theorem setF_eq {σ : Nat → AV} {d : Nat} {v : AV} : setF σ (some d) v d = v := by simp [setF, updF]

theorem readsW_run {h : Heap} {k : Env → Prop} : ∀ (l : List Nat) (loc : Env), l.Pairwise (· < ·) →
    (∀ p ∈ l, ∀ q ∈ l, p ≤ q → ∀ d, (opI ops q).dst = some d → d ∉ reads ops (opI ops p)) → (∀ p ∈ l, ∀ q ∈ l, p < q → ∀ d, (opI ops q).dst = some d → (opI ops p).dst ≠ some d) →
    readsW P C ops env h k l loc → ∃ loc', k loc' ∧ (∀ t, (∀ p ∈ l, (opI ops p).dst ≠ some t) → look loc' env t = look loc env t) ∧
      ∀ p ∈ l, dstLt C (opI ops p) ∧ ∃ v, valW P C ops (opI ops p) (look loc' env) h v ∧ ∀ d, (opI ops p).dst = some d → look loc' env d = v
  | [], loc, _, _, _, hr => ⟨loc, hr, fun _ _ => rfl, fun p hp => by cases hp⟩
  | p :: ps, loc, hs, hd, hq, hr => by
    obtain ⟨v, hv, hlt, hr⟩ := hr
    rw [List.pairwise_cons] at hs
    have mem := fun q (h : q ∈ ps) => List.mem_cons_of_mem p h
    have self := List.mem_cons_self (a := p) (l := ps)
    obtain ⟨loc', h1, h2, h3⟩ := readsW_run ps _ hs.2 (fun a ha b hb => hd a (mem a ha) b (mem b hb)) (fun a ha b hb => hq a (mem a ha) b (mem b hb)) hr
    refine ⟨loc', h1, fun t ht => ?_, fun q hmq => ?_⟩
    · rw [h2 t fun q hq => ht q (mem q hq), look_push, setF_ne (ht p self)]
    · rcases List.mem_cons.1 hmq with rfl | hmq
      · refine ⟨hlt, v, ?_, fun d hdq => ?_⟩
        · unfold valW at hv ⊢
          rw [oneW_congr (τ := look loc env)]
          · exact hv
          · intro t ht
            rw [h2 t fun b hb hbd => hd q self b (mem b hb) (Nat.le_of_lt (hs.1 b hb)) t hbd ht, look_push, setF_ne]
            exact fun hbd => hd q self q self (Nat.le_refl _) t hbd ht
        · rw [h2 d fun b hb hbd => hq q self b (mem b hb) (hs.1 b hb) d hbd hdq, look_push, hdq, setF_eq]
      · exact h3 q hmq

theorem stabW_mem {h : Heap} {loc : Env} : ∀ {l : List Nat}, stabW P C ops env h loc l → ∀ p ∈ l, ∃ v, valW P C ops (opI ops p) (look loc env) h v ∧ ∀ d, (opI ops p).dst = some d → look loc env d = v
  | p :: ps, hs, q, hq => by
    rcases List.mem_cons.1 hq with rfl | hq
    · exact hs.1
    · exact stabW_mem hs.2 q hq

theorem enabled_mem {n : Nat} {eff bs S : List Nat} {p : Nat} : p ∈ enabled n eff bs S ↔ p < n ∧ p ∉ eff ∧ ∀ e ∈ eff, bef bs p e = true → e ∈ S := by
  unfold enabled
  simp only [List.mem_filter, List.mem_range, Bool.and_eq_true, Bool.not_eq_true', List.all_eq_true, Bool.or_eq_true, List.contains_eq_mem, decide_eq_true_eq, decide_eq_false_iff_not]
  constructor
  · rintro ⟨h1, h2, h3⟩
    exact ⟨h1, h2, fun e he hb => by
      rcases h3 e he with h | h
      · rw [hb] at h; cases h
      · exact h⟩
  · rintro ⟨h1, h2, h3⟩
    exact ⟨h1, h2, fun e he => by
      cases hb : bef bs p e
      · exact .inl rfl
      · exact .inr (h3 e he hb)⟩

theorem nextE_mem {eff bs S : List Nat} {e : Nat} : e ∈ nextE eff bs S ↔ e ∈ eff ∧ e ∉ S ∧ ∀ e' ∈ eff, bef bs e e' = true → e' ∈ S := by
  unfold nextE
  simp only [List.mem_filter, Bool.and_eq_true, Bool.not_eq_true', List.all_eq_true, Bool.or_eq_true, List.contains_eq_mem, decide_eq_true_eq, decide_eq_false_iff_not]
  constructor
  · rintro ⟨h1, h2, h3⟩
    exact ⟨h1, h2, fun e' he hb => by
      rcases h3 e' he with h | h
      · rw [hb] at h; cases h
      · exact h⟩
  · rintro ⟨h1, h2, h3⟩
    exact ⟨h1, h2, fun e' he => by
      cases hb : bef bs e e'
      · exact .inl rfl
      · exact .inr (h3 e' he hb)⟩

theorem newE_mem {n : Nat} {eff bs S : List Nat} {e p : Nat} : p ∈ newE n eff bs S e ↔ p ∈ enabled n eff bs (e :: S) ∧ p ∉ enabled n eff bs S := by
  unfold newE
  simp only [List.mem_filter, Bool.not_eq_true', List.contains_eq_mem, decide_eq_false_iff_not]

theorem stabE_mem {n : Nat} {eff bs S : List Nat} {e p : Nat} : p ∈ stabE ops n eff bs S e ↔ p ∈ enabled n eff bs S ∧ bef bs e p = false ∧ kindOf false (opI ops p).op ≠ .pure := by
  unfold stabE
  simp only [List.mem_filter, Bool.and_eq_true, Bool.not_eq_true', decide_eq_false_iff_not, ne_eq]

theorem range_filter_lt (n : Nat) (f : Nat → Bool) : ((List.range n).filter f).Pairwise (· < ·) := List.pairwise_lt_range.filter _

theorem opI_get {ops : Array Oper} {i : Nat} {o : Oper} (h : ops[i]? = some o) : opI ops.toList i = o := by
  unfold opI
  rw [Array.getElem?_toList, h]

/-- THE LAW. -/
theorem tree_any {ops : Array Oper} {eff bs : List Nat} (F : TreeFacts ops.toList eff (fun i p => bef bs i p = true)) {k : Env → Heap → Prop} (hv : VolFree C.vol env) : ∀ (fuel : Nat) (listed : Array Bool) (σ : Nat → AV) (h : Heap) (S : List Nat) (loc : Env) (m : Nat),
    listed.size = ops.size → (leftI ops.size listed).length ≤ fuel →
    (∀ e, e ∈ S ↔ e ∈ eff ∧ listed.getD e false = true) → treeW P C ops.toList env eff bs k m S loc h →
    (∀ t, (∃ p, p ∈ enabled ops.size eff bs S ∧ listed.getD p false = false ∧ (opI ops.toList p).dst = some t) ∨ σ t = look loc env t) →
    (∀ p, p ∈ enabled ops.size eff bs S → listed.getD p false = false → dstLt C (opI ops.toList p) ∧ ∃ v, valW P C ops.toList (opI ops.toList p) (look loc env) h v ∧ ∀ d, (opI ops.toList p).dst = some d → look loc env d = v) →
    (∀ i, listed.getD i false = true → i ∈ eff ∨ i ∈ enabled ops.size eff bs S) →
    (∀ i, listed.getD i false = true → ∀ p, bef bs i p = true → listed.getD p false = true) →
    AnyW P C ops (EndW C k) fuel listed σ h := by
  have fin : ∀ (listed : Array Bool) (σ : Nat → AV) (h : Heap) (S : List Nat) (loc : Env) (m : Nat), listed.size = ops.size → readyF ops listed = [] →
      (∀ e, e ∈ S ↔ e ∈ eff ∧ listed.getD e false = true) → treeW P C ops.toList env eff bs k m S loc h →
      (∀ t, (∃ p, p ∈ enabled ops.size eff bs S ∧ listed.getD p false = false ∧ (opI ops.toList p).dst = some t) ∨ σ t = look loc env t) → EndW C k σ h := by
    intro listed σ h S loc m hs hr hS htree hσ
    have all : ∀ i, i < ops.size → listed.getD i false = true := by
      intro i
      induction i using Nat.strongRecOn with
      | _ i ih =>
        intro hi
        cases hc : listed.getD i false with
        | true => rfl
        | false =>
          exfalso
          have : i ∈ readyF ops listed := readyF_mem.2 ⟨hi, by
            have h2 : i < listed.size := by omega
            simpa [Array.getD, h2] using hc, ops[i], Array.getElem?_eq_getElem hi, fun e he hb => by
            have := F.lt i ops[i] (by rw [Array.getElem?_toList]; exact Array.getElem?_eq_getElem hi) e he hb
            exact ih e.on this (by omega)⟩
          rw [hr] at this; cases this
    have hn : nextE eff bs S = [] := by
      rw [List.eq_nil_iff_forall_not_mem]
      intro e he
      obtain ⟨h1, h2, _⟩ := nextE_mem.1 he
      exact h2 ((hS e).2 ⟨h1, all e (by simpa using F.ef e h1)⟩)
    have hk : k (commit C.vol loc env) h := by
      cases m with
      | zero => exact htree.2
      | succ m => simp only [treeW, hn] at htree; exact htree
    refine ⟨_, hk, fun t ht => ?_, fun t ht => ?_⟩
    · rw [commit_get, if_pos ht]; exact hv t ht
    · rw [commit_get, if_neg (by simp only [ht]; simp)]
      rcases hσ t with ⟨p, h1, h2, _⟩ | h1
      · have := all p (enabled_mem.1 h1).1
        rw [this] at h2; cases h2
      · exact h1
  have noleft : ∀ (listed : Array Bool), listed.size = ops.size → leftI ops.size listed = [] → readyF ops listed = [] := by
    intro listed hs hl
    rw [List.eq_nil_iff_forall_not_mem]
    intro i hi
    obtain ⟨h1, h2, _⟩ := readyF_mem.1 hi
    have : i ∈ leftI ops.size listed := (leftI_mem hs).2 ⟨h1, by
      have h3 : i < listed.size := by omega
      simpa [Array.getD, h3] using h2⟩
    rw [hl] at this; cases this
  intro fuel
  induction fuel with
  | zero =>
    intro listed σ h S loc m hs hl hS htree hσ hval hin hcl
    have hr := noleft listed hs (List.length_eq_zero_iff.1 (Nat.le_zero.1 hl))
    exact ⟨hr, fin listed σ h S loc m hs hr hS htree hσ⟩
  | succ fuel ih =>
    intro listed σ h S loc m hs hl hS htree hσ hval hin hcl
    refine ⟨fun hr => fin listed σ h S loc m hs hr hS htree hσ, fun i hi o ho => ?_⟩
    obtain ⟨h1, h2, o', ho', hafter⟩ := readyF_mem.1 hi
    rw [ho] at ho'; cases ho'
    have hoI := opI_get ho
    have hilt : i < listed.size := by omega
    have hil : i < ops.toList.length := by simpa using h1
    have h2' : listed.getD i false = false := by simpa [Array.getD, hilt] using h2
    have hbs : ∀ p, bef bs i p = true → listed.getD p false = true := by
      intro p hp
      obtain ⟨_, e, he, hb, hor⟩ := F.up i o (by rw [Array.getElem?_toList]; exact ho) p hp
      have hle := hafter e he hb
      rcases hor with rfl | hor
      · exact hle
      · exact hcl e.on hle p hor
    have hcl' : ∀ j, (listed.setIfInBounds i true).getD j false = true → ∀ p, bef bs j p = true → (listed.setIfInBounds i true).getD p false = true := by
      intro j hj p hp
      rw [getD_set hilt] at hj ⊢
      split
      · rfl
      · split at hj
        · rename_i e; subst e; exact hbs p hp
        · exact hcl j hj p hp
    have hleft : (leftI ops.size (listed.setIfInBounds i true)).length ≤ fuel := by
      have hmem : i ∈ leftI ops.size listed := (leftI_mem hs).2 ⟨h1, h2'⟩
      obtain ⟨pre, post, hsplit⟩ := List.append_of_mem hmem
      rw [leftI_set hs h1 hsplit]
      rw [hsplit] at hl
      simp at hl ⊢; omega
    -- what it reads is what the run in the text's order has
    have hread : ∀ t ∈ reads ops.toList o, σ t = look loc env t := by
      intro t ht
      rcases hσ t with ⟨p, g1, g2, g3⟩ | g1
      · exfalso
        obtain ⟨e1, e2, e3⟩ := enabled_mem.1 g1
        have := F.rd p i (by simpa using e1) hil e2 t g3 (by rw [hoI]; exact ht)
        rw [hbs p this] at g2; cases g2
      · exact g1
    rw [oneW_congr hread]
    by_cases hie : i ∈ eff
    · have hiS : i ∉ S := fun hx => by
        have := ((hS i).1 hx).2
        rw [h2'] at this; cases this
      have hnx : i ∈ nextE eff bs S := nextE_mem.2 ⟨hie, hiS, fun e' he' hb => (hS e').2 ⟨he', hbs e' hb⟩⟩
      cases m with
      | zero => rw [htree.1] at hnx; cases hnx
      | succ m =>
      have hstep : oneW P C ops.toList (opI ops.toList i) (look loc env) h fun r => dstLt C (opI ops.toList i) ∧ stabW P C ops.toList env r.2 (pushL loc (opI ops.toList i).dst r.1) (stabE ops.toList ops.toList.length eff bs S i) ∧
          readsW P C ops.toList env r.2 (fun loc' => treeW P C ops.toList env eff bs k m (i :: S) loc' r.2) (newE ops.toList.length eff bs S i) (pushL loc (opI ops.toList i).dst r.1) := by
        simp only [treeW] at htree
        cases hn : nextE eff bs S with
        | nil => rw [hn] at hnx; cases hnx
        | cons a l =>
          rw [hn] at htree hnx
          exact (allW_iff _ _).1 htree i hnx
      rw [hoI] at hstep
      refine oneW_mono _ _ (fun r hr => ?_) hstep
      obtain ⟨hlt, hstab, hreads⟩ := hr
      have hsz : ops.toList.length = ops.size := by simp
      rw [hsz] at hstab hreads
      have enab : ∀ p, p ∈ enabled ops.size eff bs S → p ∈ enabled ops.size eff bs (i :: S) := fun p hp => by
        obtain ⟨e1, e2, e3⟩ := enabled_mem.1 hp
        exact enabled_mem.2 ⟨e1, e2, fun e he hb => List.mem_cons_of_mem _ (e3 e he hb)⟩
      have lt_of : ∀ p q, p < ops.toList.length → bef bs p q = true → q < p := fun p q hp hb => by
        have := F.up p _ (List.getElem?_eq_getElem hp) q hb
        exact this.1
      obtain ⟨loc', hk, hkeep, hvals⟩ := readsW_run (newE ops.size eff bs S i) _ (by unfold newE enabled; exact (range_filter_lt _ _).filter _)
        (fun p hp q hq hpq d hdq hdr => by
          obtain ⟨a1, _⟩ := newE_mem.1 hp
          obtain ⟨b1, _⟩ := newE_mem.1 hq
          obtain ⟨c1, c2, _⟩ := enabled_mem.1 a1
          obtain ⟨d1, d2, _⟩ := enabled_mem.1 b1
          have := F.rd q p (by simpa using d1) (by simpa using c1) d2 d hdq hdr
          have := lt_of p q (by simpa using c1) this
          omega)
        (fun p hp q hq hpq d hdq hdp => by
          obtain ⟨a1, _⟩ := newE_mem.1 hp
          obtain ⟨b1, _⟩ := newE_mem.1 hq
          have := F.dd p q (by simpa using (enabled_mem.1 a1).1) (by simpa using (enabled_mem.1 b1).1) d hdp hdq
          omega) hreads
      refine ⟨hlt, ih (listed.setIfInBounds i true) _ r.2 (i :: S) loc' m (by simpa using hs) hleft ?_ hk ?_ ?_ ?_ hcl'⟩
      · intro e
        rw [getD_set hilt, List.mem_cons, hS e]
        constructor
        · rintro (rfl | ⟨g1, g2⟩)
          · exact ⟨hie, if_pos rfl⟩
          · exact ⟨g1, by split; rfl; exact g2⟩
        · rintro ⟨g1, g2⟩
          split at g2
          · exact .inl (by assumption)
          · exact .inr ⟨g1, g2⟩
      · intro t
        by_cases hnew : ∃ p ∈ newE ops.size eff bs S i, (opI ops.toList p).dst = some t
        · obtain ⟨p, hp, hpt⟩ := hnew
          obtain ⟨a1, a2⟩ := newE_mem.1 hp
          refine .inl ⟨p, a1, ?_, hpt⟩
          rw [getD_set hilt]
          have : p ≠ i := by rintro rfl; exact (enabled_mem.1 a1).2.1 hie
          rw [if_neg this]
          cases hc : listed.getD p false with
          | false => rfl
          | true =>
            rcases hin p hc with h | h
            · exact absurd h (enabled_mem.1 a1).2.1
            · exact absurd h a2
        · have e1 : look loc' env t = setF (look loc env) o.dst r.1 t := by
            rw [hkeep t fun p hp hpt => hnew ⟨p, hp, hpt⟩, look_push]
          by_cases hdt : o.dst = some t
          · right
            rw [e1, hdt, setF_eq, setF_eq]
          · rcases hσ t with ⟨p, g1, g2, g3⟩ | g1
            · refine .inl ⟨p, enab p g1, ?_, g3⟩
              rw [getD_set hilt]
              have : p ≠ i := by rintro rfl; exact (enabled_mem.1 g1).2.1 hie
              rw [if_neg this]; exact g2
            · right
              rw [e1, setF_ne hdt, setF_ne hdt, g1]
      · intro p hp hpl
        rw [getD_set hilt] at hpl
        have hpi : p ≠ i := by
          rintro rfl; rw [if_pos rfl] at hpl; cases hpl
        rw [if_neg hpi] at hpl
        by_cases hpn : p ∈ newE ops.size eff bs S i
        · exact hvals p hpn
        · have hpS : p ∈ enabled ops.size eff bs S := Classical.byContradiction fun hx => hpn (newE_mem.2 ⟨hp, hx⟩)
          obtain ⟨c1, c2, c3⟩ := enabled_mem.1 hpS
          have hnb : bef bs i p = false := by
            cases hb : bef bs i p with
            | false => rfl
            | true => rw [hbs p hb] at hpl; cases hpl
          obtain ⟨g1, v, g2, g3⟩ := hval p hpS hpl
          have hdp : ∀ d, (opI ops.toList p).dst = some d → look loc' env d = look (pushL loc o.dst r.1) env d := fun d hd => hkeep d fun q hq hqd => by
            obtain ⟨b1, b2⟩ := newE_mem.1 hq
            have := F.dd p q (by simpa using c1) (by simpa using (enabled_mem.1 b1).1) d hd hqd
            subst this
            exact b2 hpS
          have hrp : ∀ t ∈ reads ops.toList (opI ops.toList p), look loc' env t = look (pushL loc o.dst r.1) env t := fun t ht => hkeep t fun q hq hqd => by
            obtain ⟨b1, b2⟩ := newE_mem.1 hq
            obtain ⟨d1, d2, d3⟩ := enabled_mem.1 b1
            have hb := F.rd q p (by simpa using d1) (by simpa using c1) d2 t hqd ht
            exact b2 (enabled_mem.2 ⟨d1, d2, fun e he hqe => c3 e he (F.tr p q e (by simpa using c1) hb hqe)⟩)
          refine ⟨g1, ?_⟩
          by_cases hpure : kindOf false (opI ops.toList p).op = .pure
          · have hp0 : ∀ t ∈ reads ops.toList (opI ops.toList p), look (pushL loc o.dst r.1) env t = look loc env t := fun t ht => by
              rw [look_push, setF_ne]
              intro hd
              rcases F.re i p hil (by simpa using c1) (fun e => hpi e.symm) t (by rw [hoI]; exact hd) ht with hb | hb
              · exact hiS (c3 i hie hb)
              · rw [hnb] at hb; cases hb
            refine ⟨v, ?_, fun d hd => ?_⟩
            · unfold valW
              rw [oneW_congr fun t ht => (hrp t ht).trans (hp0 t ht)]
              exact valW_pure hpure g2 r.2
            · rw [hdp d hd, look_push, setF_ne, g3 d hd]
              intro hd2
              exact hpi (F.dd p i (by simpa using c1) hil d hd (by rw [hoI]; exact hd2))
          · obtain ⟨v', q1, q2⟩ := stabW_mem hstab p (stabE_mem.2 ⟨hpS, hnb, hpure⟩)
            refine ⟨v', ?_, fun d hd => by rw [hdp d hd]; exact q2 d hd⟩
            unfold valW
            rw [oneW_congr hrp]
            exact q1
      · intro j hj
        rw [getD_set hilt] at hj
        split at hj
        · rename_i e; subst e; exact .inl hie
        · exact (hin j hj).imp id (enab j)
    · have hen : i ∈ enabled ops.size eff bs S := enabled_mem.2 ⟨h1, hie, fun e he hb => (hS e).2 ⟨he, hbs e hb⟩⟩
      obtain ⟨hlt, v, hv1, hv2⟩ := hval i hen h2'
      rw [hoI] at hv1 hv2 hlt
      refine oneW_mono _ _ (fun r hr => ?_) hv1
      subst hr
      refine ⟨hlt, ih (listed.setIfInBounds i true) _ h S loc m (by simpa using hs) hleft ?_ htree ?_ ?_ ?_ hcl'⟩
      · intro e
        rw [getD_set hilt, hS e]
        constructor
        · rintro ⟨g1, g2⟩; exact ⟨g1, by split; rfl; exact g2⟩
        · rintro ⟨g1, g2⟩
          split at g2
          · rename_i e; subst e; exact absurd g1 hie
          · exact ⟨g1, g2⟩
      · intro t
        by_cases hdt : o.dst = some t
        · right
          rw [hdt, setF_eq, hv2 t hdt]
        · rcases hσ t with ⟨p, g1, g2, g3⟩ | g1
          · refine .inl ⟨p, g1, ?_, g3⟩
            rw [getD_set hilt, if_neg]
            · exact g2
            · rintro rfl; rw [hoI] at g3; exact hdt g3
          · right
            show setF σ o.dst v t = _
            rw [setF_ne hdt, g1]
      · intro p hp hpl
        rw [getD_set hilt] at hpl
        split at hpl
        · cases hpl
        · exact hval p hp hpl
      · intro j hj
        rw [getD_set hilt] at hj
        split at hj
        · rename_i e; subst e; exact .inr hen
        · exact hin j hj

/-- A region whose order is open. -/
theorem draw_tree {ops : Array Oper} {eff bs : List Nat} (F : TreeFacts ops.toList eff (fun i p => bef bs i p = true)) {k : Env → Heap → Prop} {h : Heap}
    (he : readsW P C ops.toList env h (fun loc => treeW P C ops.toList env eff bs k eff.length [] loc h) (enabled ops.toList.length eff bs []) []) : drawW P C ops k env h := by
  intro hv
  have hsz : ops.toList.length = ops.size := by simp
  rw [hsz] at he
  have lt_of : ∀ p q, p < ops.toList.length → bef bs p q = true → q < p := fun p q hp hb => (F.up p _ (List.getElem?_eq_getElem hp) q hb).1
  obtain ⟨loc', hk, hkeep, hvals⟩ := readsW_run (enabled ops.size eff bs []) [] (by unfold enabled; exact range_filter_lt _ _)
    (fun p hp q hq hpq d hdq hdr => by
      obtain ⟨c1, c2, _⟩ := enabled_mem.1 hp
      obtain ⟨d1, d2, _⟩ := enabled_mem.1 hq
      have := F.rd q p (by simpa using d1) (by simpa using c1) d2 d hdq hdr
      have := lt_of p q (by simpa using c1) this
      omega)
    (fun p hp q hq hpq d hdq hdp => by
      have := F.dd p q (by simpa using (enabled_mem.1 hp).1) (by simpa using (enabled_mem.1 hq).1) d hdp hdq
      omega) he
  have none : ∀ i, (Array.replicate ops.size false).getD i false = false := fun i => by
    simp only [Array.getD_eq_getD_getElem?, Array.getElem?_replicate]
    split <;> rfl
  refine tree_any F hv ops.size (Array.replicate ops.size false) env.get h [] loc' eff.length (by simp) ?_ (fun e => by simp [none]) hk (fun t => ?_) (fun p hp _ => hvals p hp) (fun i hi => by rw [none] at hi; cases hi) (fun i hi => by rw [none] at hi; cases hi)
  · unfold leftI
    refine Nat.le_trans (List.length_filter_le _ _) (by simp)
  · by_cases hnew : ∃ p ∈ enabled ops.size eff bs [], (opI ops.toList p).dst = some t
    · obtain ⟨p, hp, hpt⟩ := hnew
      exact .inl ⟨p, hp, none p, hpt⟩
    · right
      rw [hkeep t fun p hp hpt => hnew ⟨p, hp, hpt⟩, look_nil]
end

end Go.Vab

/-
  The steps of the code's reading, shorter.
-/
namespace Go.Vab
open Go

section
variable {β : Type} {C : Ctx} {q : Bool} {L : List Oper} {k : Env → Heap → Option β} {i : Nat} {loc env : Env} {h : Heap}
theorem oP {X : Option (AV × Heap)} {Y : AV × Heap → Option β} (d : Nat)
    (h2 : ∀ r : AV × Heap, evOpsK C q L k (List.drop (i + 1) L) ((d, r.1) :: loc) env r.2 = Y r)
    (hl : List.drop i L = opAt L i :: List.drop (i + 1) L := by kernel_rfl) (hd : (opAt L i).dst = some d := by kernel_rfl) (hlt : decide (d < C.ntmps) = true := by kernel_rfl) (h1 : evOne C q L (opAt L i) loc env h = X := by kernel_rfl) :
    evOpsK C q L k (List.drop i L) loc env h = bnd X Y := opsK_p d hl hd hlt h1 h2
theorem oN {X : Option (AV × Heap)} {Y : AV × Heap → Option β}
    (h2 : ∀ r : AV × Heap, evOpsK C q L k (List.drop (i + 1) L) loc env r.2 = Y r)
    (hl : List.drop i L = opAt L i :: List.drop (i + 1) L := by kernel_rfl) (hd : (opAt L i).dst = none := by kernel_rfl) (h1 : evOne C q L (opAt L i) loc env h = X := by kernel_rfl) :
    evOpsK C q L k (List.drop i L) loc env h = bnd X Y := opsK_n hl hd h1 h2
theorem oT {Y : Option β} (d : Nat) (v : AV) (h2 : evOpsK C q L k (List.drop (i + 1) L) ((d, v) :: loc) env h = Y)
    (hl : List.drop i L = opAt L i :: List.drop (i + 1) L := by kernel_rfl) (hd : (opAt L i).dst = some d := by kernel_rfl) (hlt : decide (d < C.ntmps) = true := by kernel_rfl) (h1 : evOne C q L (opAt L i) loc env h = some (v, h) := by kernel_rfl) :
    evOpsK C q L k (List.drop i L) loc env h = Y := opsK_t d v hl hd hlt h1 h2
theorem oE {Y : Option β} (hl : List.drop i L = [] := by kernel_rfl) (h1 : k (commit C.vol loc env) h = Y := by kernel_rfl) : evOpsK C q L k (List.drop i L) loc env h = Y := opsK_e hl h1
end

section
variable {C : Ctx} {n : Code} {s : St} {env : Env} {h : Heap}
theorem xSR (id : Nat) (ops : Array Oper) (rest : Code) (hn : n = .seq (.region id ops false) rest := by kernel_rfl) : evC C n ⟨env, h⟩ = evOpsK C false ops.toList (fun e g => evC C rest ⟨e, g⟩) ops.toList [] env h := ev_seqreg id ops rest hn
theorem xR (id : Nat) (ops : Array Oper) (hn : n = .region id ops false := by kernel_rfl) : evC C n ⟨env, h⟩ = evOpsK C false ops.toList (fun e g => some (.nrm, ⟨e, g⟩)) ops.toList [] env h := ev_reg id ops hn
theorem xSD (id : Nat) (ops : Array Oper) (rest : Code) (hok : drawOk ops.toList = true) (hn : n = .seq (.region id ops true) rest := by kernel_rfl) : evC C n ⟨env, h⟩ = evOpsK C true ops.toList (fun e g => evC C rest ⟨e, g⟩) ops.toList [] env h := ev_seqdraw id ops rest hn hok
theorem xSDL (id : Nat) (ops : Array Oper) (rest : Code) (hok : loud ops.toList = true) (hn : n = .seq (.region id ops true) rest := by kernel_rfl) : evC C n ⟨env, h⟩ = evOpsK C false ops.toList (fun e g => evC C rest ⟨e, g⟩) ops.toList [] env h := ev_seqdrawL id ops rest hn hok
theorem xD (id : Nat) (ops : Array Oper) (hok : drawOk ops.toList = true) (hn : n = .region id ops true := by kernel_rfl) : evC C n ⟨env, h⟩ = evOpsK C true ops.toList (fun e g => some (.nrm, ⟨e, g⟩)) ops.toList [] env h := ev_draw id ops hn hok
theorem xS (a b : Code) (hn : n = .seq a b := by kernel_rfl) : evC C n s = bnd (evC C a s) (sqK (evC C b)) := ev_seq a b hn
theorem xC (t : Nat) (a b : Code) (hn : n = .cond (.tmp t) a b := by kernel_rfl) : evC C n s = cnd (s.env.get t) (evC C a s) (evC C b s) := ev_cond t a b hn
theorem xB (id : Nat) (c : Code) (hn : n = .block id c := by kernel_rfl) : evC C n s = bnd (evC C c s) fun r => some (inBlk id r) := ev_block id c hn
theorem xL (c : Code) (hn : n = .loop c := by kernel_rfl) : evC C n s = evLoop (evC C c) s := ev_loop c hn
theorem xX (id : Nat) (hn : n = .exit id := by kernel_rfl) : evC C n s = some (.exit id, s) := ev_exit id hn
theorem xE (hn : n = .ret := by kernel_rfl) : evC C n s = some (.ret, s) := ev_ret hn
theorem xK (hn : n = .skip := by kernel_rfl) : evC C n s = some (.nrm, s) := ev_skip hn
end

end Go.Vab

/-
  How code is read, by relation: a step for each operation.
-/
namespace Go.Vab
open Go

/-! the check of a region whose order is open -/
def treeOk (ops : List Oper) (eff bs : List Nat) : Bool :=
  (ops.zipIdx.all fun x => x.1.after.toList.all fun e => !Region.binds .any e || decide (e.on < x.2)) &&
  (ops.zipIdx.all fun x => (List.range ops.length).all fun p => !bef bs x.2 p || x.1.after.toList.any fun e => Region.binds .any e && (decide (e.on = p) || bef bs e.on p)) &&
  ((List.range ops.length).all fun i => (List.range ops.length).all fun j => !bef bs i j || (bs.getD i 0 ||| bs.getD j 0) == bs.getD i 0) &&
  (ops.zipIdx.all fun x => match x.1.dst with
    | none => true
    | some d => ops.zipIdx.all fun y => (!(reads ops y.1).contains d || bef bs y.2 x.2 || (eff.contains x.2 && (decide (x.2 = y.2) || bef bs x.2 y.2))) && (decide (x.2 = y.2) || decide (y.1.dst ≠ some d))) &&
  eff.all fun e => decide (e < ops.length)

theorem opI_of {ops : List Oper} {i : Nat} (h : i < ops.length) : ops[i]? = some (opI ops i) := by
  unfold opI
  rw [List.getElem?_eq_getElem h]

theorem treeOk_facts {ops : List Oper} {eff bs : List Nat} (h : treeOk ops eff bs = true) : TreeFacts ops eff (fun i p => bef bs i p = true) := by
  unfold treeOk at h
  simp only [Bool.and_eq_true] at h
  obtain ⟨⟨⟨⟨h1, h2⟩, h3⟩, h4⟩, h5⟩ := h
  simp only [List.all_eq_true, Bool.or_eq_true, Bool.not_eq_true', decide_eq_true_eq, Prod.forall, List.mem_zipIdx_iff_getElem?, List.mem_range, List.any_eq_true, Bool.and_eq_true] at h1 h2 h3 h4 h5
  have lt : ∀ i p, bef bs i p = true → p < i := fun i p hp => by unfold bef at hp; simp at hp; exact hp.1
  have key : ∀ i j, i < ops.length → j < ops.length → ∀ d, (opI ops i).dst = some d → (d ∉ reads ops (opI ops j) ∨ bef bs j i = true ∨ (i ∈ eff ∧ (i = j ∨ bef bs i j = true))) ∧ (i = j ∨ (opI ops j).dst ≠ some d) := by
    intro i j hi hj d hd
    have := h4 (opI ops i) i (opI_of hi)
    rw [hd] at this
    simp only [List.all_eq_true, Bool.or_eq_true, Bool.not_eq_true', decide_eq_true_eq, Prod.forall, List.mem_zipIdx_iff_getElem?, Bool.and_eq_true, List.contains_eq_mem, decide_eq_false_iff_not] at this
    obtain ⟨g1, g2⟩ := this (opI ops j) j (opI_of hj)
    refine ⟨?_, g2⟩
    rcases g1 with (g | g) | g
    · exact .inl g
    · exact .inr (.inl g)
    · exact .inr (.inr g)
  refine ⟨fun i o ho e he hb => ?_, fun i o ho p hp => ⟨lt i p hp, ?_⟩, fun i j k hi hij hjk => ?_, fun i j hi hj hie d hd hr => ?_, fun i j hi hj hne d hd hr => ?_, fun i j hi hj d hd hd' => ?_, fun e he => h5 e he⟩
  · rcases h1 o i ho e he with h | h
    · rw [hb] at h; cases h
    · exact h
  · have hil : i < ops.length := (List.getElem?_eq_some_iff.1 ho).1
    rcases h2 o i ho p (Nat.lt_trans (lt i p hp) hil) with h | h
    · rw [hp] at h; cases h
    · exact h
  · rcases h3 i hi j (Nat.lt_trans (lt i j hij) hi) with h | h
    · rw [hij] at h; cases h
    · have e := eq_of_beq h
      have l1 := lt i j hij
      have l2 := lt j k hjk
      unfold bef at hjk ⊢
      simp only [Bool.and_eq_true, decide_eq_true_eq] at hjk ⊢
      refine ⟨by omega, ?_⟩
      rw [← e, Nat.testBit_or, hjk.2, Bool.or_true]
  · rcases (key i j hi hj d hd).1 with h | h | h
    · exact absurd hr h
    · exact h
    · exact absurd h.1 hie
  · rcases (key i j hi hj d hd).1 with h | h | h
    · exact absurd hr h
    · exact .inl h
    · rcases h.2 with h | h
      · exact absurd h hne
      · exact .inr h
  · rcases (key i j hi hj d hd).2 with h | h
    · exact h
    · exact absurd hd' h

/-! values under a guard -/
def gv (y : AV) (want : Bool) (X : Option AV) : Option AV := match y with
  | .bool b => if b = want then X else some .undef
  | .undef => some .undef
  | _ => none

@[simp] theorem gv_bool (b want : Bool) (X : Option AV) : gv (.bool b) want X = if b = want then X else some .undef := rfl
@[simp] theorem gv_undef (want : Bool) (X : Option AV) : gv .undef want X = some .undef := rfl
@[simp] theorem gW_bool (b want : Bool) (X : (AV × Heap → Prop) → Prop) (h : Heap) (K : AV × Heap → Prop) : gW (.bool b) want X h K = if b = want then X K else K (.undef, h) := rfl
@[simp] theorem gW_undef (want : Bool) (X : (AV × Heap → Prop) → Prop) (h : Heap) (K : AV × Heap → Prop) : gW .undef want X h K = K (.undef, h) := rfl

theorem evs_some {α : Type} (a : α) (K : α → Prop) : Evs (some a) K = K a := propext (Iff.intro (fun ⟨r, h1, h2⟩ => by cases h1; exact h2) (fun h => ⟨a, rfl, h⟩))
theorem evs_pureV (h : Heap) (X : Option AV) (K : AV × Heap → Prop) : Evs (pureV h X) K = Evs X fun v => K (v, h) := by
  cases X with
  | none => exact propext (Iff.intro (fun ⟨r, h1, _⟩ => by cases h1) (fun ⟨r, h1, _⟩ => by cases h1))
  | some a => rw [evs_some]; exact evs_some (a, h) K
theorem gW_pureV (y : AV) (want : Bool) (h : Heap) (X : Option AV) (K : AV × Heap → Prop) : gW y want (Evs (pureV h X)) h K = Evs (gv y want X) fun v => K (v, h) := by
  cases y with
  | bool b =>
    simp only [gW_bool, gv_bool]
    split
    · exact evs_pureV h X K
    · rw [evs_some]
  | undef => simp only [gW_undef, gv_undef, evs_some]
  | _ => exact propext (Iff.intro (fun h => h.elim) (fun ⟨r, h1, _⟩ => by cases h1))

/-- A function value is called. -/
def fnW (P : Program) (f : AV) (args : List AV) (h : Heap) : (AV × Heap → Prop) → Prop := match f with
  | .fn g caps => SpecQ P g (args ++ caps) h
  | _ => fun _ => False
@[simp] theorem fnW_fn (P : Program) (g : Nat) (caps args : List AV) (h : Heap) (K : AV × Heap → Prop) : fnW P (.fn g caps) args h K = SpecQ P g (args ++ caps) h K := rfl

section
variable {P : Program} {C : Ctx} {L : List Oper} {k : Env → Heap → Prop} {i : Nat} {loc env : Env} {h : Heap}
theorem wP {X : Option AV} {Y : AV → Prop} (d : Nat) (h2 : ∀ v, opsW P C L k (List.drop (i + 1) L) ((d, v) :: loc) env h = Y v)
    (hl : List.drop i L = opAt L i :: List.drop (i + 1) L := by kernel_rfl) (hd : (opAt L i).dst = some d := by kernel_rfl) (hlt : decide (d < C.ntmps) = true := by kernel_rfl)
    (h1 : oneW P C L (opAt L i) (look loc env) h = Evs (pureV h X) := by kernel_rfl) : opsW P C L k (List.drop i L) loc env h = Evs X Y := by
  rw [hl]; simp only [opsW, h1, hd, of_decide_eq_true hlt, true_and]
  rw [evs_pureV]; congr 1; funext v; exact h2 v
theorem wPn {X : Option AV} {Y : AV → Prop} (h2 : ∀ v : AV, opsW P C L k (List.drop (i + 1) L) loc env h = Y v)
    (hl : List.drop i L = opAt L i :: List.drop (i + 1) L := by kernel_rfl) (hd : (opAt L i).dst = none := by kernel_rfl)
    (h1 : oneW P C L (opAt L i) (look loc env) h = Evs (pureV h X) := by kernel_rfl) : opsW P C L k (List.drop i L) loc env h = Evs X Y := by
  rw [hl]; simp only [opsW, h1, hd]
  rw [evs_pureV]; congr 1; funext v; exact h2 v
theorem wG {y : AV} {want : Bool} {X : Option AV} {Y : AV → Prop} (d : Nat) (h2 : ∀ v, opsW P C L k (List.drop (i + 1) L) ((d, v) :: loc) env h = Y v)
    (hl : List.drop i L = opAt L i :: List.drop (i + 1) L := by kernel_rfl) (hd : (opAt L i).dst = some d := by kernel_rfl) (hlt : decide (d < C.ntmps) = true := by kernel_rfl)
    (h1 : oneW P C L (opAt L i) (look loc env) h = gW y want (Evs (pureV h X)) h := by kernel_rfl) : opsW P C L k (List.drop i L) loc env h = Evs (gv y want X) Y := by
  rw [hl]; simp only [opsW, h1, hd, of_decide_eq_true hlt, true_and]
  rw [gW_pureV]; congr 1; funext v; exact h2 v
theorem wGn {y : AV} {want : Bool} {X : Option AV} {Y : AV → Prop} (h2 : ∀ v : AV, opsW P C L k (List.drop (i + 1) L) loc env h = Y v)
    (hl : List.drop i L = opAt L i :: List.drop (i + 1) L := by kernel_rfl) (hd : (opAt L i).dst = none := by kernel_rfl)
    (h1 : oneW P C L (opAt L i) (look loc env) h = gW y want (Evs (pureV h X)) h := by kernel_rfl) : opsW P C L k (List.drop i L) loc env h = Evs (gv y want X) Y := by
  rw [hl]; simp only [opsW, h1, hd]
  rw [gW_pureV]; congr 1; funext v; exact h2 v
theorem wH {F : (AV × Heap → Prop) → Prop} {Y : AV × Heap → Prop} (d : Nat) (h2 : ∀ r : AV × Heap, opsW P C L k (List.drop (i + 1) L) ((d, r.1) :: loc) env r.2 = Y r)
    (hl : List.drop i L = opAt L i :: List.drop (i + 1) L := by kernel_rfl) (hd : (opAt L i).dst = some d := by kernel_rfl) (hlt : decide (d < C.ntmps) = true := by kernel_rfl)
    (h1 : oneW P C L (opAt L i) (look loc env) h = F := by kernel_rfl) : opsW P C L k (List.drop i L) loc env h = F Y := by
  rw [hl]; simp only [opsW, h1, hd, of_decide_eq_true hlt, true_and]
  congr 1; funext r; exact h2 r
theorem wHn {F : (AV × Heap → Prop) → Prop} {Y : AV × Heap → Prop} (h2 : ∀ r : AV × Heap, opsW P C L k (List.drop (i + 1) L) loc env r.2 = Y r)
    (hl : List.drop i L = opAt L i :: List.drop (i + 1) L := by kernel_rfl) (hd : (opAt L i).dst = none := by kernel_rfl)
    (h1 : oneW P C L (opAt L i) (look loc env) h = F := by kernel_rfl) : opsW P C L k (List.drop i L) loc env h = F Y := by
  rw [hl]; simp only [opsW, h1, hd]
  congr 1; funext r; exact h2 r
theorem wT {Y : Prop} (d : Nat) (v : AV) (h2 : opsW P C L k (List.drop (i + 1) L) ((d, v) :: loc) env h = Y)
    (hl : List.drop i L = opAt L i :: List.drop (i + 1) L := by kernel_rfl) (hd : (opAt L i).dst = some d := by kernel_rfl) (hlt : decide (d < C.ntmps) = true := by kernel_rfl)
    (h1 : oneW P C L (opAt L i) (look loc env) h = Evs (some (v, h)) := by kernel_rfl) : opsW P C L k (List.drop i L) loc env h = Y := by
  rw [hl]; simp only [opsW, h1, hd, of_decide_eq_true hlt, true_and]
  rw [evs_some]; exact h2
theorem wE {Y : Prop} (hl : List.drop i L = [] := by kernel_rfl) (h1 : k (commit C.vol loc env) h = Y := by kernel_rfl) : opsW P C L k (List.drop i L) loc env h = Y := by
  rw [hl]; exact h1
theorem w0 {Y : Prop} (h1 : opsW P C L k (List.drop 0 L) [] env h = Y) : opsW P C L k L [] env h = Y := h1
end

/-- A value of a call that leaves nothing. -/
def ValW (F : (AV × Heap → Prop) → Prop) (h : Heap) (Y : AV → Prop) : Prop := ∃ v, F (fun r => r = (v, h)) ∧ Y v
def stabP (p rest : Prop) : Prop := p ∧ rest
def bothP (p q : Prop) : Prop := p ∧ q

section
variable {P : Program} {C : Ctx} {L : List Oper} {env : Env} {k : Env → Prop} {p : Nat} {ps : List Nat} {loc : Env} {h : Heap}
theorem rP {X : Option AV} {Y : AV → Prop} (H : Evs X Y) (d : Nat) (h2 : ∀ v, Y v → readsW P C L env h k ps ((d, v) :: loc)) (hd : (opI L p).dst = some d := by kernel_rfl) (hlt : decide (d < C.ntmps) = true := by kernel_rfl)
    (h1 : oneW P C L (opI L p) (look loc env) h = Evs (pureV h X) := by kernel_rfl) : readsW P C L env h k (p :: ps) loc := by
  obtain ⟨v, e, hY⟩ := H
  refine ⟨v, ?_, ?_, ?_⟩
  · unfold valW; rw [h1, evs_pureV, e, evs_some]
  · unfold dstLt; rw [hd]; exact of_decide_eq_true hlt
  · unfold pushL; rw [hd]; exact h2 v hY
theorem rPn {X : Option AV} {Y : AV → Prop} (H : Evs X Y) (h2 : ∀ v, Y v → readsW P C L env h k ps loc) (hd : (opI L p).dst = none := by kernel_rfl)
    (h1 : oneW P C L (opI L p) (look loc env) h = Evs (pureV h X) := by kernel_rfl) : readsW P C L env h k (p :: ps) loc := by
  obtain ⟨v, e, hY⟩ := H
  refine ⟨v, ?_, ?_, ?_⟩
  · unfold valW; rw [h1, evs_pureV, e, evs_some]
  · unfold dstLt; rw [hd]; trivial
  · unfold pushL; rw [hd]; exact h2 v hY
theorem rG {y : AV} {want : Bool} {X : Option AV} {Y : AV → Prop} (H : Evs (gv y want X) Y) (d : Nat) (h2 : ∀ v, Y v → readsW P C L env h k ps ((d, v) :: loc)) (hd : (opI L p).dst = some d := by kernel_rfl) (hlt : decide (d < C.ntmps) = true := by kernel_rfl)
    (h1 : oneW P C L (opI L p) (look loc env) h = gW y want (Evs (pureV h X)) h := by kernel_rfl) : readsW P C L env h k (p :: ps) loc := by
  obtain ⟨v, e, hY⟩ := H
  refine ⟨v, ?_, ?_, ?_⟩
  · unfold valW; rw [h1, gW_pureV, e, evs_some]
  · unfold dstLt; rw [hd]; exact of_decide_eq_true hlt
  · unfold pushL; rw [hd]; exact h2 v hY
theorem rT (d : Nat) (v : AV) (h2 : readsW P C L env h k ps ((d, v) :: loc)) (hd : (opI L p).dst = some d := by kernel_rfl) (hlt : decide (d < C.ntmps) = true := by kernel_rfl)
    (h1 : oneW P C L (opI L p) (look loc env) h = Evs (some (v, h)) := by kernel_rfl) : readsW P C L env h k (p :: ps) loc := by
  refine ⟨v, ?_, ?_, ?_⟩
  · unfold valW; rw [h1, evs_some]
  · unfold dstLt; rw [hd]; exact of_decide_eq_true hlt
  · unfold pushL; rw [hd]; exact h2
theorem rF {F : (AV × Heap → Prop) → Prop} {Y : AV → Prop} (H : ValW F h Y) (d : Nat) (h2 : ∀ v, Y v → readsW P C L env h k ps ((d, v) :: loc)) (hd : (opI L p).dst = some d := by kernel_rfl) (hlt : decide (d < C.ntmps) = true := by kernel_rfl)
    (h1 : oneW P C L (opI L p) (look loc env) h = F := by kernel_rfl) : readsW P C L env h k (p :: ps) loc := by
  obtain ⟨v, e, hY⟩ := H
  refine ⟨v, ?_, ?_, ?_⟩
  · unfold valW; rw [h1]; exact e
  · unfold dstLt; rw [hd]; exact of_decide_eq_true hlt
  · unfold pushL; rw [hd]; exact h2 v hY
theorem rE (H : k loc) : readsW P C L env h k [] loc := H
end

section
variable {P : Program} {C : Ctx} {L : List Oper} {env : Env} {eff bs : List Nat} {k : Env → Heap → Prop} {loc : Env} {h : Heap} {m e : Nat} {S : List Nat}
theorem tH {F : (AV × Heap → Prop) → Prop} {Y : AV × Heap → Prop} (H : F Y) (d : Nat) (nl sl : List Nat) (h2 : ∀ r : AV × Heap, Y r → stabW P C L env r.2 ((d, r.1) :: loc) sl ∧ readsW P C L env r.2 (fun loc' => treeW P C L env eff bs k m (e :: S) loc' r.2) nl ((d, r.1) :: loc))
    (hd : (opI L e).dst = some d := by kernel_rfl) (hlt : decide (d < C.ntmps) = true := by kernel_rfl) (hn : newE L.length eff bs S e = nl := by kernel_rfl) (hs : stabE L L.length eff bs S e = sl := by kernel_rfl)
    (h1 : oneW P C L (opI L e) (look loc env) h = F := by kernel_rfl) :
    effW P C L env eff bs (treeW P C L env eff bs k m) S loc h e := by
  unfold effW
  rw [← h1] at H
  refine oneW_mono _ _ (fun r hr => ?_) H
  rw [hn, hs, hd]
  refine ⟨?_, h2 r hr⟩
  unfold dstLt; rw [hd]; exact of_decide_eq_true hlt
theorem tHn {F : (AV × Heap → Prop) → Prop} {Y : AV × Heap → Prop} (H : F Y) (nl sl : List Nat) (h2 : ∀ r : AV × Heap, Y r → stabW P C L env r.2 loc sl ∧ readsW P C L env r.2 (fun loc' => treeW P C L env eff bs k m (e :: S) loc' r.2) nl loc)
    (hd : (opI L e).dst = none := by kernel_rfl) (hn : newE L.length eff bs S e = nl := by kernel_rfl) (hs : stabE L L.length eff bs S e = sl := by kernel_rfl)
    (h1 : oneW P C L (opI L e) (look loc env) h = F := by kernel_rfl) :
    effW P C L env eff bs (treeW P C L env eff bs k m) S loc h e := by
  unfold effW
  rw [← h1] at H
  refine oneW_mono _ _ (fun r hr => ?_) H
  rw [hn, hs, hd]
  refine ⟨?_, h2 r hr⟩
  unfold dstLt; rw [hd]; trivial
theorem tE (H : k (commit C.vol loc env) h) (hn : nextE eff bs S = [] := by kernel_rfl) : treeW P C L env eff bs k m S loc h := by
  cases m with
  | zero => exact ⟨hn, H⟩
  | succ m => simp only [treeW, hn]; exact H
theorem tN (a : Nat) (l : List Nat) (H : allW (effW P C L env eff bs (treeW P C L env eff bs k m) S loc h) (a :: l)) (hn : nextE eff bs S = a :: l := by kernel_rfl) : treeW P C L env eff bs k (m + 1) S loc h := by
  unfold treeW
  rw [hn]
  exact H
theorem aN1 {f : Nat → Prop} {a : Nat} (h : f a) : allW f [a] := h
theorem aN2 {f : Nat → Prop} {a b : Nat} {l : List Nat} (h : f a) (h2 : allW f (b :: l)) : allW f (a :: b :: l) := ⟨h, h2⟩
end

section
variable {P : Program} {C : Ctx} {L : List Oper} {env : Env} {loc : Env} {h : Heap} {p : Nat} {ps : List Nat}
theorem sNil : stabW P C L env h loc [] := trivial
theorem sP {X : Option AV} (v : AV) (d : Nat) {rest Z : Prop} (H : stabP (X = some v) rest) (h2 : rest → stabW P C L env h loc ps ∧ Z) (hd : (opI L p).dst = some d) (hv : look loc env d = v)
    (h1 : oneW P C L (opI L p) (look loc env) h = Evs (pureV h X)) : stabW P C L env h loc (p :: ps) ∧ Z := by
  obtain ⟨e, hr⟩ := H
  obtain ⟨g1, g2⟩ := h2 hr
  refine ⟨⟨⟨v, ?_, fun d' hd' => ?_⟩, g1⟩, g2⟩
  · unfold valW; rw [h1, evs_pureV, e, evs_some]
  · rw [hd] at hd'; cases hd'; exact hv
theorem sG {y : AV} {want : Bool} {X : Option AV} (v : AV) (d : Nat) {rest Z : Prop} (H : stabP (gv y want X = some v) rest) (h2 : rest → stabW P C L env h loc ps ∧ Z) (hd : (opI L p).dst = some d) (hv : look loc env d = v)
    (h1 : oneW P C L (opI L p) (look loc env) h = gW y want (Evs (pureV h X)) h) : stabW P C L env h loc (p :: ps) ∧ Z := by
  obtain ⟨e, hr⟩ := H
  obtain ⟨g1, g2⟩ := h2 hr
  refine ⟨⟨⟨v, ?_, fun d' hd' => ?_⟩, g1⟩, g2⟩
  · unfold valW; rw [h1, gW_pureV, e, evs_some]
  · rw [hd] at hd'; cases hd'; exact hv
theorem sF {F : (AV × Heap → Prop) → Prop} (v : AV) (d : Nat) {rest Z : Prop} (H : stabP (F fun r => r = (v, h)) rest) (h2 : rest → stabW P C L env h loc ps ∧ Z) (hd : (opI L p).dst = some d) (hv : look loc env d = v)
    (h1 : oneW P C L (opI L p) (look loc env) h = F) : stabW P C L env h loc (p :: ps) ∧ Z := by
  obtain ⟨e, hr⟩ := H
  obtain ⟨g1, g2⟩ := h2 hr
  refine ⟨⟨⟨v, ?_, fun d' hd' => ?_⟩, g1⟩, g2⟩
  · unfold valW; rw [h1]; exact e
  · rw [hd] at hd'; cases hd'; exact hv
end

/-! code -/
section
variable {P : Program} {C : Ctx} {n : Code} {s : St} {env : Env} {h : Heap} {Q : Ex × St → Prop}
theorem ySR (id : Nat) (ops : Array Oper) (rest : Code) (hn : n = .seq (.region id ops false) rest := by kernel_rfl) : wC P C n Q ⟨env, h⟩ = opsW P C ops.toList (fun e g => wC P C rest Q ⟨e, g⟩) ops.toList [] env h := by subst hn; rfl
theorem yR (id : Nat) (ops : Array Oper) (hn : n = .region id ops false := by kernel_rfl) : wC P C n Q ⟨env, h⟩ = opsW P C ops.toList (fun e g => Q (.nrm, ⟨e, g⟩)) ops.toList [] env h := by subst hn; rfl
theorem ySD (id : Nat) (ops : Array Oper) (rest : Code) (eff bs : List Nat) (l : List Nat) (hok : treeOk ops.toList eff bs = true)
    (H : readsW P C ops.toList env h (fun loc => treeW P C ops.toList env eff bs (fun e g => wC P C rest Q ⟨e, g⟩) eff.length [] loc h) l [])
    (hn : n = .seq (.region id ops true) rest := by kernel_rfl) (hl : enabled ops.toList.length eff bs [] = l := by kernel_rfl) : wC P C n Q ⟨env, h⟩ := by
  subst hn; subst hl; exact draw_tree (treeOk_facts hok) H
theorem yD (id : Nat) (ops : Array Oper) (eff bs : List Nat) (l : List Nat) (hok : treeOk ops.toList eff bs = true)
    (H : readsW P C ops.toList env h (fun loc => treeW P C ops.toList env eff bs (fun e g => Q (.nrm, ⟨e, g⟩)) eff.length [] loc h) l [])
    (hn : n = .region id ops true := by kernel_rfl) (hl : enabled ops.toList.length eff bs [] = l := by kernel_rfl) : wC P C n Q ⟨env, h⟩ := by
  subst hn; subst hl; exact draw_tree (treeOk_facts hok) H
theorem yS (a b : Code) (hn : n = .seq a b := by kernel_rfl) : wC P C n Q s = wC P C a (sqW (wC P C b) Q) s := by subst hn; rfl
/-- Code that is not yet looked at. -/
def wL (P : Program) (C : Ctx) (n : Code) (Q : Ex × St → Prop) (s : St) : Prop := wC P C n Q s
theorem wL_i {P : Program} {C : Ctx} {n : Code} {Q : Ex × St → Prop} {s : St} (h : wC P C n Q s) : wL P C n Q s := h
theorem yC (t : Nat) (a b : Code) (hn : n = .cond (.tmp t) a b := by kernel_rfl) : wC P C n Q s = cndW (s.env.get t) (wL P C a Q s) (wL P C b Q s) := by subst hn; rfl
theorem yB (id : Nat) (c : Code) (hn : n = .block id c := by kernel_rfl) : wC P C n Q s = wC P C c (fun r => Q (inBlk id r)) s := by subst hn; rfl
theorem yL (c : Code) (hn : n = .loop c := by kernel_rfl) : wC P C n Q s = loopW (wC P C c) Q s := by subst hn; rfl
theorem yX (id : Nat) (hn : n = .exit id := by kernel_rfl) : wC P C n Q s = Q (.exit id, s) := by subst hn; rfl
theorem yE (hn : n = .ret := by kernel_rfl) : wC P C n Q s = Q (.ret, s) := by subst hn; rfl
theorem yK (hn : n = .skip := by kernel_rfl) : wC P C n Q s = Q (.nrm, s) := by subst hn; rfl
end

/-! running -/
theorem evs_of {α : Type} {m : Option α} {a : α} {Q : α → Prop} (h : m = some a) (hq : Q a) : Evs m Q := ⟨a, h, hq⟩
theorem stabP_i {p rest : Prop} (h : p) (hr : rest) : stabP p rest := ⟨h, hr⟩
theorem bothP_i {p q : Prop} (h : p) (hr : q) : bothP p q := ⟨h, hr⟩
theorem cndW_T {v : AV} {x y : Prop} (h : v = .bool true) (hx : x) : cndW v x y := by subst h; exact hx
theorem cndW_F {v : AV} {x y : Prop} (h : v = .bool false) (hy : y) : cndW v x y := by subst h; exact hy
theorem gW_do {y : AV} {want : Bool} {X : (AV × Heap → Prop) → Prop} {h : Heap} {K : AV × Heap → Prop} (hy : y = .bool want) (hx : X K) : gW y want X h K := by subst hy; simpa using hx
theorem gW_no {y : AV} {want : Bool} {X : (AV × Heap → Prop) → Prop} {h : Heap} {K : AV × Heap → Prop} (hy : y = .bool (!want)) (hk : K (.undef, h)) : gW y want X h K := by subst hy; cases want <;> simpa using hk
theorem gW_un {y : AV} {want : Bool} {X : (AV × Heap → Prop) → Prop} {h : Heap} {K : AV × Heap → Prop} (hy : y = .undef) (hk : K (.undef, h)) : gW y want X h K := by subst hy; exact hk
theorem ValW_i {F : (AV × Heap → Prop) → Prop} {h : Heap} {Y : AV → Prop} {v : AV} (hF : F fun r => r = (v, h)) (hY : Y v) : ValW F h Y := ⟨v, hF, hY⟩

theorem SpecQ.step {P : Program} {g : Nat} {args : List AV} {h : Heap} {K K' : AV × Heap → Prop} (hs : SpecQ P g args h K) (hK : ∀ r, K r → K' r) : SpecQ P g args h K' := hs.mono hK

/-- A loop that counts up to N, and may be left ahead of its end. -/
theorem loopW_up {g : (Ex × St → Prop) → St → Prop} {Q : Ex × St → Prop} (hg : ∀ Q Q' s, (∀ r, Q r → Q' r) → g Q s → g Q' s) (N : Nat) (I : Nat → St → Prop) (step : ∀ i s, i < N → I i s → g (fun r => (r.1 = .nrm ∧ I (i + 1) r.2) ∨ (r.1 ≠ .nrm ∧ Q r)) s)
    (last : ∀ s, I N s → g (fun r => r.1 ≠ .nrm ∧ Q r) s) {s : St} (h0 : I 0 s) : loopW g Q s := by
  refine ⟨fun n s => ∃ i, i + n = N ∧ I i s, N, ⟨0, by omega, h0⟩, fun n s ⟨i, hi, hs⟩ => ?_⟩
  by_cases h : i < N
  · refine hg _ _ _ (fun r hr => ?_) (step i s h hs)
    rcases hr with ⟨h1, h2⟩ | h1
    · exact .inl ⟨h1, n - 1, by omega, i + 1, by omega, h2⟩
    · exact .inr h1
  · have : i = N := by omega
    subst this
    exact hg _ _ _ (fun r hr => .inr hr) (last s hs)

end Go.Vab
