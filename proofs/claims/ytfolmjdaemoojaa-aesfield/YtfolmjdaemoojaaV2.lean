/-
  What a reading of the arguments tells: abstract values, and blocks that are only read.
-/
import Derived.Test.YtfolmjdaemoojaaV1
import Derived.ProofKit
import Derived.OpenShut
import Derived.Test.YtfolmjdaemoojaaProg
import Derived.Test.YtfolmjdaemoojaaRows
import GoSem.Claim
import Derived.KernelRfl
set_option linter.all false
set_option linter.unusedSectionVars false
namespace Go.Vab
open Go

/-- What a value of a type may be that was read. -/
def Rd (P : Program) (tt : Nat → Option TI) (h : Heap) : Nat → TypeId → AV → Prop
  | 0, _, _ => False
  | n + 1, t, v => match P.underlying t with
    | some .bool => ∃ b, v = .bool b
    | some (.int k) => ∃ x, v = .int k x ∧ (Lit.int k x).wf = true
    | some .string => ∃ s, v = .str s ∧ s.size ≤ maxLen
    | some (.slice e) => v = .nilslice ∨ ∃ i el row m len cap, v = .slice i 0 [] el.ty 0 len (some cap) ∧ tt e = some el ∧ h[i]? = some ⟨row, 0, m⟩ ∧ hasTy row (.arr cap el.ty) = true ∧ len ≤ cap ∧ cap ≤ maxLen ∧
        ∀ j, j < cap → ∃ x, row.get [j] = some x ∧ Rd P tt h n e x
    | some (.struct fs) => ∃ vs, v = .node vs ∧ ∀ (f : Nat) x, fs[f]? = some x → ∃ y, vs[f]? = some y ∧ Rd P tt h n x.type y
    | some (.array m e) => ∀ j, j < m → ∃ x, v.get [j] = some x ∧ Rd P tt h n e x
    | _ => False

theorem Rd.app {P : Program} {tt : Nat → Option TI} {h : Heap} (l : Heap) : ∀ (n : Nat) (t : TypeId) (v : AV), Rd P tt h n t v → Rd P tt (h ++ l) n t v
  | 0, _, _, hr => hr
  | n + 1, t, v, hr => by
    unfold Rd at hr ⊢
    split at hr
    · exact hr
    · exact hr
    · exact hr
    · rcases hr with hr | ⟨i, el, row, m, len, cap, h1, h2, h3, h4, h5, h6, h7⟩
      · exact .inl hr
      · exact .inr ⟨i, el, row, m, len, cap, h1, h2, by rw [List.getElem?_append_left (List.getElem?_eq_some_iff.1 h3).1]; exact h3, h4, h5, h6, fun j hj => let ⟨x, hx, hy⟩ := h7 j hj; ⟨x, hx, Rd.app l n _ _ hy⟩⟩
    · obtain ⟨vs, h1, h2⟩ := hr
      exact ⟨vs, h1, fun f x hx => let ⟨y, hy, hz⟩ := h2 f x hx; ⟨y, hy, Rd.app l n _ _ hz⟩⟩
    · intro j hj
      obtain ⟨x, hx, hy⟩ := hr j hj
      exact ⟨x, hx, Rd.app l n _ _ hy⟩
    · exact hr

/-- Nothing of it may be written. -/
def NoOwn (E : Gh) (h : Heap) : Prop := ∀ i b, h[i]? = some b → ¬ Own E i b

def Gh.pushAt (E : Gh) (blk base : Nat) (many : Bool) (ty : Ty) : Gh where
  n := E.n + 1
  blk i := if i = E.n then blk else E.blk i
  base i := if i = E.n then base else E.base i
  room i := if i = E.n then 0 else E.room i
  ver i := if i = E.n then 0 else E.ver i
  many i := if i = E.n then many else E.many i
  ty i := if i = E.n then ty else E.ty i

theorem Gh.pushAt_ext (E : Gh) (blk base : Nat) (many : Bool) (ty : Ty) : Ext E (E.pushAt blk base many ty) := by
  refine ⟨Nat.le_succ _, fun i hi => ?_, fun i hi => ?_, fun i hi => ?_, fun i hi _ => ?_⟩ <;> simp [Gh.pushAt, Nat.ne_of_lt hi]

theorem rel_push {E : Gh} {h : Heap} {w : World} (R : RelHeap E h w) (N : NoOwn E h) (b : Blk) (blk base : Nat) (many : Bool) (ty : Ty) (hver : b.ver = 0)
    (hfits : if many = true then ∃ n t, ty = .arr 0 t ∧ hasTy b.v (.arr n t) = true else hasTy b.v ty = true) {l : List Value} (hl : VRl E b.v l)
    (hcell : (b.mode = .ro ∧ ∃ arr te fr pre post, w.heap[blk]? = some (.cells arr te fr) ∧ arr.toList = pre ++ l ++ post ∧ pre.length = base) ∨ (b.mode = .open ∧ many = true ∧ l = [] ∧ b.v.rowLen = some 0)) :
    RelHeap (E.pushAt blk base many ty) (h ++ [b]) w ∧ NoOwn (E.pushAt blk base many ty) (h ++ [b]) := by
  have hX := Gh.pushAt_ext E blk base many ty
  have hget : ∀ (j : Nat) (c : Blk), (h ++ [b])[j]? = some c → (j = E.n ∧ c = b) ∨ (j < E.n ∧ h[j]? = some c) := by
    intro j c hj
    rw [R.n]
    by_cases e : j < h.length
    · rw [List.getElem?_append_left e] at hj; exact .inr ⟨e, hj⟩
    · rw [List.getElem?_append_right (by omega)] at hj
      have : j - h.length = 0 := by
        have := (List.getElem?_eq_some_iff.1 hj).1
        simp at this; omega
      rw [this] at hj; simp at hj
      exact .inl ⟨by omega, hj.symm⟩
  have hplaced : ∀ (j : Nat) (c : Blk), j < E.n → (Placed (E.pushAt blk base many ty) j c ↔ Placed E j c) := fun j c hj => by
    unfold Placed; simp [Gh.pushAt, Nat.ne_of_lt hj]
  have hno : NoOwn (E.pushAt blk base many ty) (h ++ [b]) := by
    intro j c hj hO
    rcases hget j c hj with ⟨rfl, rfl⟩ | ⟨hjn, hj⟩
    · rcases hcell with ⟨hm, _⟩ | ⟨hm, _⟩
      · exact hO.1 hm
      · exact hO.2 ⟨hm, by simp [Gh.pushAt]⟩
    · exact N j c hj ⟨hO.1, (hplaced j c hjn).1 hO.2⟩
  refine ⟨⟨by simp [Gh.pushAt, R.n], fun j c hj => ?_, fun j k c d hj hk hP hO e => absurd hO (hno k d hk)⟩, hno⟩
  rcases hget j c hj with ⟨rfl, rfl⟩ | ⟨hjn, hj⟩
  · refine ⟨by simp [Gh.pushAt, hver], ?_, ⟨l, VRl.mono hX _ _ hl, fun hP => ?_, fun hP => ?_⟩, fun hm => ?_⟩
    · unfold Fits; simpa [Gh.pushAt] using hfits
    · rcases hcell with ⟨hm, arr, te, fr, pre, post, e, e1, e2⟩ | ⟨hm, _⟩
      · exact ⟨arr, te, fr, pre, post, by simpa [Gh.pushAt] using e, e1, by simpa [Gh.pushAt] using e2, fun hn => absurd hm hn⟩
      · exact absurd ⟨hm, by simp [Gh.pushAt]⟩ hP
    · rcases hcell with ⟨hm, _⟩ | ⟨_, _, hl0, _⟩
      · exact absurd (fun hh => by rw [hm] at hh; cases hh.1) hP
      · exact hl0
    · rcases hcell with ⟨hm', _⟩ | ⟨_, hM, _, hr⟩
      · rw [hm'] at hm; cases hm
      · exact ⟨by simpa [Gh.pushAt] using hM, by rw [hr, hver]⟩
  · have B := R.at_ j c hj
    obtain ⟨l', hl1, hl2, hl3⟩ := B.body
    have hne := Nat.ne_of_lt hjn
    refine ⟨by simp [Gh.pushAt, hne, B.ver], ?_, ⟨l', VRl.mono hX _ _ hl1, fun hP => ?_, fun hP => hl3 (fun q => hP ((hplaced j c hjn).2 q))⟩, fun hm => ?_⟩
    · have := B.fits; unfold Fits at this ⊢; simpa [Gh.pushAt, hne] using this
    · have := hl2 ((hplaced j c hjn).1 hP)
      simpa [Gh.pushAt, hne] using this
    · have := B.grow hm; simpa [Gh.pushAt, hne] using this

/-- The row of elements. -/
def mkRow : Ty → List AV → AV
  | .int k, vs => .ints k (vs.map fun v => match v with | .int _ n => n | _ => 0)
  | _, vs => .node vs

theorem mkRow_spec {E : Gh} {u : Ty} : ∀ {vs : List AV} {cs : List Value}, (∀ v ∈ vs, hasTy v u = true) → VRs E vs cs →
    VRl E (mkRow u vs) cs ∧ hasTy (mkRow u vs) (.arr vs.length u) = true ∧ (∀ j, (mkRow u vs).get [j] = vs[j]?) ∧ (mkRow u vs).rowLen = some vs.length := by
  intro vs cs ht hr
  cases u with
  | int k =>
    have hk : ∀ v ∈ vs, ∃ n, v = .int k n := by
      intro v hv
      have := ht v hv
      cases v <;> simp [hasTy] at this
      exact ⟨_, by rw [this]⟩
    refine ⟨?_, by simp [mkRow, hasTy], fun j => ?_, by simp [mkRow, AV.rowLen]⟩
    · simp only [mkRow, VRl]
      clear ht
      induction vs generalizing cs with
      | nil => simp only [VRs] at hr; subst hr; rfl
      | cons v vs ih =>
        simp only [VRs] at hr
        obtain ⟨l1, l2, rfl, h1, h2⟩ := hr
        obtain ⟨n, rfl⟩ := hk v (List.mem_cons_self ..)
        simp only [VRl] at h1
        subst h1
        have := ih h2 (fun v hv => hk v (List.mem_cons_of_mem _ hv))
        simp [this]
    · simp only [mkRow, AV.get, List.getElem?_map]
      cases hj : vs[j]? with
      | none => rfl
      | some v =>
        obtain ⟨n, rfl⟩ := hk v (List.mem_of_getElem? hj)
        rfl
  | cell => exact ⟨by simpa only [mkRow, VRl] using hr, by simp [mkRow, hasTy, (hasTyAll_iff vs _).2 ht], fun j => by simp only [mkRow, get_node]; cases vs[j]? <;> simp, by simp [mkRow, AV.rowLen]⟩
  | arr m t => exact ⟨by simpa only [mkRow, VRl] using hr, by simp [mkRow, hasTy, (hasTyAll_iff vs _).2 ht], fun j => by simp only [mkRow, get_node]; cases vs[j]? <;> simp, by simp [mkRow, AV.rowLen]⟩
  | struct ts => exact ⟨by simpa only [mkRow, VRl] using hr, by simp [mkRow, hasTy, (hasTyAll_iff vs _).2 ht], fun j => by simp only [mkRow, get_node]; cases vs[j]? <;> simp, by simp [mkRow, AV.rowLen]⟩

/-! the cells of rows and structs in parts -/
theorem chop (s : Nat) : ∀ (n : Nat) (cs : List Value), cs.length = n * s → (List.range n).flatMap (fun i => (cs.drop (i * s)).take s) = cs
  | 0, cs, h => by simp at h; simp [h]
  | n + 1, cs, h => by
    have h1 : (cs.drop s).length = n * s := by rw [List.length_drop, h, Nat.succ_mul]; omega
    have := chop s n (cs.drop s) h1
    rw [List.range_succ_eq_map, List.flatMap_cons, List.flatMap_map]
    have e : (List.range n).flatMap (fun a => (cs.drop ((a + 1) * s)).take s) = (List.range n).flatMap (fun i => ((cs.drop s).drop (i * s)).take s) := by
      congr 1; funext a; rw [List.drop_drop, Nat.succ_mul, Nat.add_comm]
    simp only [Nat.zero_mul, List.drop_zero]
    rw [e, this, List.take_append_drop]

theorem chops : ∀ (ts : List Ty) (cs : List Value), cs.length = Ty.sizes ts → (List.range ts.length).flatMap (fun f => (cs.drop (Ty.sizes (ts.take f))).take (match ts[f]? with | some t => t.size | none => 0)) = cs
  | [], cs, h => by simp [Ty.sizes] at h; simp [h]
  | t :: ts, cs, h => by
    simp only [Ty.sizes] at h
    have h1 : (cs.drop t.size).length = Ty.sizes ts := by rw [List.length_drop, h]; omega
    have := chops ts (cs.drop t.size) h1
    rw [List.length_cons, List.range_succ_eq_map, List.flatMap_cons, List.flatMap_map]
    have e : (List.range ts.length).flatMap (fun a => (cs.drop (Ty.sizes ((t :: ts).take (a + 1)))).take (match (t :: ts)[a + 1]? with | some t => t.size | none => 0)) =
        (List.range ts.length).flatMap (fun f => ((cs.drop t.size).drop (Ty.sizes (ts.take f))).take (match ts[f]? with | some t => t.size | none => 0)) := by
      congr 1; funext a
      rw [List.drop_drop, List.take_succ_cons, List.getElem?_cons_succ]
      simp only [Ty.sizes]
    simp only [List.take_zero, Ty.sizes, List.drop_zero, List.getElem?_cons_zero]
    rw [e, this, List.take_append_drop]

/-- The types that are read so: numbers, bools, strings; structs, arrays and slices of such. -/
def plainTypeB (P : Program) (tt : Nat → Option TI) (ok : List TypeId) (t : TypeId) : Bool := match tt t, P.underlying t with
  | some i, some .bool => Ty.beq i.ty .cell
  | some i, some .string => Ty.beq i.ty .cell
  | some i, some (.int k) => Ty.beq i.ty (.int k)
  | some i, some (.slice e) => Ty.beq i.ty .cell && (match tt e with | some j => decide (j.ty.size ≠ 0) && decide (P.cellsOf e = j.ty.size) | none => false) && ok.contains e
  | some i, some (.struct fs) => (match i.ty with | .struct _ => true | _ => false) && (fs.toList.all fun f => ok.contains f.type && (match tt f.type with | some j => decide (P.cellsOf f.type = j.ty.size) | none => false))
  | some i, some (.array _ e) => (match i.ty with | .arr _ _ => true | _ => false) && ok.contains e && (match tt e with | some j => decide (P.cellsOf e = j.ty.size) | none => false)
  | _, _ => false

def plainB (P : Program) (tt : Nat → Option TI) (ok : List TypeId) : Bool := ok.all (plainTypeB P tt ok) && ok.all fun t => match tt t with | some i => decide (P.cellsOf t = i.ty.size) | none => false

section
variable {H : Type} {enc : TypeId × Value → H} {P : Program} {tt : Nat → Option TI} {ok : List TypeId} {w : World}

/-- What was read of a cell row is an abstract value, over some more memory that is only read. -/
def Read (P : Program) (tt : Nat → Option TI) (w : World) (n : Nat) (t : TypeId) (cs : List Value) : Prop :=
  ∀ E h, RelHeap E h w → NoOwn E h → ∀ i, tt t = some i → ∃ E' l v, RelHeap E' (h ++ l) w ∧ NoOwn E' (h ++ l) ∧ Ext E E' ∧ VRl E' v cs ∧ hasTy v i.ty = true ∧ Rd P tt (h ++ l) n t v

/-- Several of them, one behind the other. -/
theorem Read.list {n : Nat} : ∀ (items : List (TypeId × List Value)), (∀ x ∈ items, Read P tt w n x.1 x.2) → (∀ x ∈ items, ∃ i, tt x.1 = some i) →
    ∀ E h, RelHeap E h w → NoOwn E h → ∃ E' l vs, RelHeap E' (h ++ l) w ∧ NoOwn E' (h ++ l) ∧ Ext E E' ∧ VRs E' vs (items.flatMap (·.2)) ∧ vs.length = items.length ∧
      ∀ (j : Nat) x, items[j]? = some x → ∃ v i, vs[j]? = some v ∧ tt x.1 = some i ∧ hasTy v i.ty = true ∧ VRl E' v x.2 ∧ Rd P tt (h ++ l) n x.1 v
  | [], _, _, E, h, R, N => ⟨E, [], [], by simpa using R, by simpa using N, Ext.refl E, by simp [VRs], rfl, fun j x hx => by simp at hx⟩
  | x :: items, hr, ht, E, h, R, N => by
    obtain ⟨i, hi⟩ := ht x (List.mem_cons_self ..)
    obtain ⟨E1, l1, v, R1, N1, X1, V1, T1, D1⟩ := hr x (List.mem_cons_self ..) E h R N i hi
    obtain ⟨E2, l2, vs, R2, N2, X2, V2, L2, D2⟩ := Read.list items (fun y hy => hr y (List.mem_cons_of_mem _ hy)) (fun y hy => ht y (List.mem_cons_of_mem _ hy)) E1 (h ++ l1) R1 N1
    refine ⟨E2, l1 ++ l2, v :: vs, by rw [← List.append_assoc]; exact R2, by rw [← List.append_assoc]; exact N2, X1.trans X2, ?_, by simp [L2], fun j y hy => ?_⟩
    · rw [List.flatMap_cons]; exact VRs.cons (VRl.mono X2 _ _ V1) V2
    · rw [← List.append_assoc]
      cases j with
      | zero =>
        simp at hy; subst hy
        exact ⟨v, i, rfl, hi, T1, VRl.mono X2 _ _ V1, Rd.app l2 _ _ _ D1⟩
      | succ j =>
        simp only [List.getElem?_cons_succ] at hy ⊢
        exact D2 j y hy

theorem flatMap_of_get {α β : Type} {f : Nat → List β} {l : List α} {n : Nat} (hl : l.length = n) {g : α → List β} (h : ∀ (i : Nat) x, l[i]? = some x → g x = f i) : l.flatMap g = (List.range n).flatMap f := by
  subst hl
  rw [List.flatMap_def, List.flatMap_def]
  congr 1
  apply List.ext_getElem?
  intro i
  rw [List.getElem?_map, List.getElem?_map]
  by_cases hi : i < l.length
  · rw [List.getElem?_range hi, List.getElem?_eq_getElem hi]
    simp only [Option.map_some]
    rw [h i _ (List.getElem?_eq_getElem hi)]
  · rw [List.getElem?_eq_none (by omega), List.getElem?_eq_none (by simpa using hi)]; rfl

theorem hasTys_of : ∀ {vs : List AV} {ts : List Ty}, vs.length = ts.length → (∀ (f : Nat) v t, vs[f]? = some v → ts[f]? = some t → hasTy v t = true) → hasTys vs ts = true
  | [], [], _, _ => rfl
  | v :: vs, t :: ts, hl, h => by
    simp only [hasTys, Bool.and_eq_true]
    exact ⟨h 0 v t rfl rfl, hasTys_of (by simpa using hl) fun f v t hv ht => h (f + 1) v t (by simpa using hv) (by simpa using ht)⟩
  | [], _ :: _, hl, _ => by simp at hl
  | _ :: _, [], hl, _ => by simp at hl

theorem cells_block {b : Addr} {s : Nat} {cs : List Value} (hs : 0 < s) (h : w.cells? 0 b s = some cs) :
    ∃ arr te fr, w.heap[b.block]? = some (.cells arr te fr) ∧ b.spot = none ∧ b.off + s ≤ arr.size ∧ cs = (arr.toList.drop b.off).take s := by
  obtain ⟨_, hl, hg⟩ := World.cells?_some h
  have h0 := hg 0 hs
  have e0 : b.add 0 = b := by simp [Addr.add]
  rw [e0, List.getElem?_eq_getElem (by omega)] at h0
  unfold World.cell? at h0
  split at h0
  · rename_i arr te fr hb
    split at h0
    · cases h0
    · rename_i hsp
      have hspot : b.spot = none := by simpa using hsp
      have hcell : ∀ i, i < s → arr[b.off + i]? = cs[i]? := by
        intro i hi
        have := hg i hi
        by_cases hz : i = 0
        · subst hz
          rw [e0] at this
          unfold World.cell? at this
          rw [hb] at this
          simpa [hspot] using this
        · have e : (b.add i) = ⟨b.block, b.off + i, none⟩ := by simp [Addr.add, hz]
          rw [e] at this
          unfold World.cell? at this
          rw [hb] at this
          simpa using this
      have hlast := hcell (s - 1) (by omega)
      rw [List.getElem?_eq_getElem (by omega)] at hlast
      have hlt := (Array.getElem?_eq_some_iff.1 hlast).1
      refine ⟨arr, te, fr, hb, hspot, by omega, ?_⟩
      apply List.ext_getElem?
      intro i
      by_cases hi : i < s
      · rw [← hcell i hi, List.getElem?_take, if_pos hi, List.getElem?_drop]; simp
      · rw [List.getElem?_eq_none (by omega), List.getElem?_eq_none (by simp; omega)]
  · cases h0

theorem rows_block {a : Addr} {s c : Nat} {f : Nat → List Value} (hs : 0 < s) (hc : 0 < c) (h : ∀ i, i < c → w.cells? 0 (a.add (i * s)) s = some (f i)) :
    ∃ arr te fr pre post, w.heap[a.block]? = some (.cells arr te fr) ∧ a.spot = none ∧ arr.toList = pre ++ (List.range c).flatMap f ++ post ∧ pre.length = a.off := by
  have h0 := h 0 hc
  have e0 : a.add (0 * s) = a := by simp [Addr.add]
  rw [e0] at h0
  obtain ⟨arr, te, fr, hb, hsp, hle, _⟩ := cells_block hs h0
  have hf : ∀ i, i < c → a.off + i * s + s ≤ arr.size ∧ f i = (arr.toList.drop (a.off + i * s)).take s := by
    intro i hi
    obtain ⟨arr', te', fr', hb', _, hle', e'⟩ := cells_block hs (h i hi)
    have e1 : (a.add (i * s)).block = a.block ∧ (a.add (i * s)).off = a.off + i * s := by
      unfold Addr.add; split
      · rename_i hz; simp [hz]
      · simp
    rw [e1.1, hb] at hb'
    simp only [Option.some.injEq, Obj.cells.injEq] at hb'
    rw [e1.2, ← hb'.1] at hle' e'
    exact ⟨hle', e'⟩
  have hend := (hf (c - 1) (by omega)).1
  have hcs : (c - 1) * s + s = c * s := by rw [← Nat.succ_mul]; congr 1; omega
  refine ⟨arr, te, fr, arr.toList.take a.off, arr.toList.drop (a.off + c * s), hb, hsp, ?_, by simp; omega⟩
  have e2 := chop s c ((arr.toList.drop a.off).take (c * s)) (by simp; omega)
  have e3 : (List.range c).flatMap f = (List.range c).flatMap (fun i => (((arr.toList.drop a.off).take (c * s)).drop (i * s)).take s) := by
    rw [List.flatMap_def, List.flatMap_def]
    congr 1
    refine List.map_congr_left fun i hi => ?_
    have hi := List.mem_range.1 hi
    have hm : (i + 1) * s ≤ c * s := Nat.mul_le_mul_right _ hi
    rw [Nat.succ_mul] at hm
    rw [(hf i hi).2, List.drop_take, List.take_take, List.drop_drop, Nat.min_eq_left (by omega)]
  rw [e3, e2, List.append_assoc, ← List.drop_drop, List.take_append_drop, List.take_append_drop]

theorem read_ok (T : TTok P tt) (hok : plainB P tt ok = true) : ∀ (n : Nat) (t : TypeId) (cs : List Value) (x : DataW H × List MemPlace), ok.contains t = true →
    DataW.trod enc P w 0 (fun _ => true) true n t cs = some x → Read P tt w n t cs
  | 0, t, cs, x, _, h => by simp [DataW.trod] at h
  | n + 1, t, cs, x, hm, h => by
    intro E hp R N i hi
    have hok2 := hok
    simp only [plainB, Bool.and_eq_true, List.all_eq_true] at hok
    have hb := hok.1 t (by simpa using hm)
    unfold plainTypeB at hb
    rw [hi] at hb
    have keep : ∀ v : AV, VRl E v cs → hasTy v i.ty = true → Rd P tt (hp ++ []) (n + 1) t v → ∃ E' l v, RelHeap E' (hp ++ l) w ∧ NoOwn E' (hp ++ l) ∧ Ext E E' ∧ VRl E' v cs ∧ hasTy v i.ty = true ∧ Rd P tt (hp ++ l) (n + 1) t v :=
      fun v h1 h2 h3 => ⟨E, [], v, by simpa using R, by simpa using N, Ext.refl E, h1, h2, h3⟩
    cases hu : P.underlying t with
    | none => rw [hu] at hb; simp at hb
    | some d =>
      rw [hu] at hb
      cases d <;> try (simp only [Bool.false_eq_true] at hb; done)
      case bool =>
        obtain ⟨b, rfl, _⟩ := DataW.trod_bool hu h
        have hty := Ty.beq_eq _ _ hb
        exact keep (.bool b) (by simp only [VRl]) (by rw [hty]; rfl) (by simp only [Rd, hu]; exact ⟨_, rfl⟩)
      case string =>
        obtain ⟨b, rfl, _, hm⟩ := DataW.trod_string hu h
        have hty := Ty.beq_eq _ _ hb
        exact keep (.str b) (by simp only [VRl]) (by rw [hty]; rfl) (by simp only [Rd, hu]; exact ⟨_, rfl, hm⟩)
      case int k =>
        obtain ⟨b, rfl, _, hm⟩ := DataW.trod_int hu h
        have hty := Ty.beq_eq _ _ hb
        exact keep (.int k b) (by simp only [VRl]) (by rw [hty]; simp [hasTy]) (by simp only [Rd, hu]; exact ⟨_, rfl, hm⟩)
      case slice e =>
        simp only [Bool.and_eq_true] at hb
        obtain ⟨⟨hty, he⟩, hoe⟩ := hb
        have hty := Ty.beq_eq _ _ hty
        cases hel : tt e with
        | none => rw [hel] at he; cases he
        | some el =>
          rw [hel] at he
          simp only [Bool.and_eq_true, decide_eq_true_eq] at he
          obtain ⟨hsz, hcz⟩ := he
          rcases DataW.trod_slice hu h with ⟨rfl, _⟩ | ⟨a, len, cap, elems, rest, n', hn, rfl, _, _, hl, hmx, hlen, hel1, hel2, _⟩
          · exact keep .nilslice (by simp only [VRl]) (by rw [hty]; rfl) (by simp only [Rd, hu]; exact .inl trivial)
          · have hn' : n = n' := by omega
            subst hn'
            have hall : ∀ k, k < cap → ∃ cs' y, w.cells? 0 (a.add (k * P.cellsOf e)) (P.cellsOf e) = some cs' ∧ DataW.trod enc P w 0 (fun _ => true) true n e cs' = some y := by
              intro k hk
              have key : ∃ y, (w.cells? 0 (a.add (k * P.cellsOf e)) (P.cellsOf e)).bind (DataW.trod enc P w 0 (fun _ => true) true n e) = some y := by
                by_cases hkl : k < len
                · exact ⟨elems[k]'(by omega), by rw [hel1 k hkl, List.getElem?_eq_getElem (by omega)]⟩
                · obtain ⟨h1, h2⟩ := hel2 rfl
                  have := h2 (k - len) (by omega)
                  rw [show len + (k - len) = k by omega] at this
                  exact ⟨rest[k - len]'(by omega), by rw [this, List.getElem?_eq_getElem (by omega)]⟩
              obtain ⟨y, hy⟩ := key
              obtain ⟨cs', h1, h2⟩ := Option.bind_eq_some_iff.1 hy
              exact ⟨cs', y, h1, h2⟩
            rw [hcz] at hall
            let f : Nat → List Value := fun k => (w.cells? 0 (a.add (k * el.ty.size)) el.ty.size).getD []
            have hf : ∀ k, k < cap → w.cells? 0 (a.add (k * el.ty.size)) el.ty.size = some (f k) ∧ ∃ y, DataW.trod enc P w 0 (fun _ => true) true n e (f k) = some y := by
              intro k hk
              obtain ⟨cs', y, h1, h2⟩ := hall k hk
              have : f k = cs' := by simp only [f, h1, Option.getD_some]
              rw [this]
              exact ⟨h1, y, h2⟩
            obtain ⟨E1, l1, vs, R1, N1, X1, V1, L1, D1⟩ := Read.list (P := P) (tt := tt) (w := w) (n := n) ((List.range cap).map fun k => (e, f k))
              (fun y hy => by
                obtain ⟨k, hk, rfl⟩ := List.mem_map.1 hy
                obtain ⟨_, z, hz⟩ := hf k (List.mem_range.1 hk)
                exact read_ok T hok2 n e (f k) z hoe hz)
              (fun y hy => by obtain ⟨k, _, rfl⟩ := List.mem_map.1 hy; exact ⟨el, hel⟩) E hp R N
            rw [List.length_map, List.length_range] at L1
            have hcells : ((List.range cap).map fun k => (e, f k)).flatMap (·.2) = (List.range cap).flatMap f := by rw [List.flatMap_map]
            rw [hcells] at V1
            have helem : ∀ j, j < cap → ∃ v, vs[j]? = some v ∧ hasTy v el.ty = true ∧ Rd P tt (hp ++ l1) n e v := by
              intro j hj
              obtain ⟨v, i', hv, hi', ht, _, hr⟩ := D1 j (e, f j) (by simp [hj])
              rw [hel] at hi'
              simp only [Option.some.injEq] at hi'
              subst hi'
              exact ⟨v, hv, ht, hr⟩
            obtain ⟨W1, W2, W3, W4⟩ := mkRow_spec (u := el.ty) (fun v hv => by
              obtain ⟨j, hj⟩ := List.getElem?_of_mem hv
              obtain ⟨v', hv', ht, _⟩ := helem j (by have := (List.getElem?_eq_some_iff.1 hj).1; omega)
              rw [hj] at hv'
              simp only [Option.some.injEq] at hv'
              rw [hv']; exact ht) V1
            rw [L1] at W2
            have hres : ∀ (m : Mode) (many : Bool) (ty : Ty), RelHeap (E1.pushAt a.block a.off many ty) ((hp ++ l1) ++ [⟨mkRow el.ty vs, 0, m⟩]) w → NoOwn (E1.pushAt a.block a.off many ty) ((hp ++ l1) ++ [⟨mkRow el.ty vs, 0, m⟩]) →
                (∃ c, ty = .arr c el.ty) → (cap ≠ 0 → a.spot = none) →
                ∃ E' l v, RelHeap E' (hp ++ l) w ∧ NoOwn E' (hp ++ l) ∧ Ext E E' ∧ VRl E' v [.slice (some a) len cap] ∧ hasTy v i.ty = true ∧ Rd P tt (hp ++ l) (n + 1) t v := by
              intro m many ty R2 N2 ⟨c', hty'⟩ hsp
              refine ⟨E1.pushAt a.block a.off many ty, l1 ++ [⟨mkRow el.ty vs, 0, m⟩], .slice (hp ++ l1).length 0 [] el.ty 0 len (some cap), by rw [← List.append_assoc]; exact R2, by rw [← List.append_assoc]; exact N2,
                X1.trans (Gh.pushAt_ext ..), ?_, by rw [hty]; rfl, ?_⟩
              · simp only [VRl]
                have hE : (hp ++ l1).length = E1.n := R1.n.symm
                rw [hE]
                refine ⟨a, cap, rfl, by simp [Gh.pushAt], by simp, hl, by simp, by simp, fun _ => ⟨0, c', by simp [Gh.pushAt, hty', Ty.sub], fun hc => ?_, by simp⟩⟩
                have hs := hsp hc
                cases a
                simp only at hs
                simp [Gh.pushAt, hs]
              · unfold Rd
                rw [hu]
                right
                refine ⟨_, el, mkRow el.ty vs, m, len, cap, rfl, hel, ?_, W2, hl, hmx, fun j hj => ?_⟩
                · rw [← List.append_assoc, List.getElem?_append_right (Nat.le_refl _)]; simp
                · obtain ⟨v, hv, _, hr⟩ := helem j hj
                  exact ⟨v, by rw [W3, hv], by rw [← List.append_assoc]; exact Rd.app _ _ _ _ hr⟩
            by_cases hc0 : cap = 0
            · subst hc0
              have hz : vs = [] := List.eq_nil_of_length_eq_zero L1
              obtain ⟨R2, N2⟩ := rel_push R1 N1 ⟨mkRow el.ty vs, 0, .open⟩ a.block a.off true (.arr 0 el.ty) rfl (by simp only [if_true]; exact ⟨0, el.ty, rfl, W2⟩) W1 (.inr ⟨rfl, rfl, rfl, by rw [W4, L1]⟩)
              exact hres .open true _ R2 N2 ⟨0, rfl⟩ (fun h => absurd rfl h)
            · obtain ⟨arr, te, fr, pre, post, g1, g2, g3, g4⟩ := rows_block (w := w) (a := a) (Nat.pos_of_ne_zero hsz) (Nat.pos_of_ne_zero hc0) (fun k hk => (hf k hk).1)
              obtain ⟨R2, N2⟩ := rel_push R1 N1 ⟨mkRow el.ty vs, 0, .ro⟩ a.block a.off false (.arr cap el.ty) rfl (by simpa using W2) W1 (.inl ⟨rfl, arr, te, fr, pre, post, g1, g3, g4⟩)
              exact hres .ro false _ R2 N2 ⟨cap, rfl⟩ (fun _ => g2)
      case struct fs =>
        simp only [Bool.and_eq_true, List.all_eq_true] at hb
        obtain ⟨hty, hfs⟩ := hb
        cases hit : i.ty with
        | struct ts =>
          obtain ⟨fs', hu', hsz, _, hfld⟩ := T.struct t i ts hi hit
          rw [hu] at hu'
          simp only [Option.some.injEq, TypeDesc.struct.injEq] at hu'
          subst hu'
          obtain ⟨xs, n', hn, _, hlen, hxl, hx⟩ := DataW.trod_struct hu h
          have hn' : n = n' := by omega
          subst hn'
          have hcell := hok.2 t (by simpa using hm)
          rw [hi] at hcell
          simp only [decide_eq_true_eq] at hcell
          rw [hcell, hit] at hlen
          simp only [Ty.size] at hlen
          have hch := chops ts cs hlen
          have hf : ∀ (f : Nat) (y : Field), fs[f]? = some y → ∃ j, tt y.type = some j ∧ ts[f]? = some j.ty ∧ (cs.drop y.offset).take (P.cellsOf y.type) = (cs.drop (Ty.sizes (ts.take f))).take (match ts[f]? with | some t => t.size | none => 0) ∧ Read P tt w n y.type ((cs.drop y.offset).take (P.cellsOf y.type)) := by
            intro f y hy
            obtain ⟨_, ho, j, hj, htf, _⟩ := hfld f y hy
            have hmem : y ∈ fs.toList := List.mem_of_getElem? (by simpa using hy)
            have h3 := hfs y hmem
            rw [hj] at h3
            simp only [decide_eq_true_eq] at h3
            refine ⟨j, hj, htf, ?_, ?_⟩
            · rw [ho, h3.2, htf]
            · have hlt : f < fs.size := (Array.getElem?_eq_some_iff.1 hy).1
              have h4 := hx f y hy
              rw [List.getElem?_eq_getElem (by omega)] at h4
              exact read_ok T hok2 n y.type _ _ h3.1 h4
          obtain ⟨E1, l1, vs, R1, N1, X1, V1, L1, D1⟩ := Read.list (P := P) (tt := tt) (w := w) (n := n) (fs.toList.map fun y => (y.type, (cs.drop y.offset).take (P.cellsOf y.type)))
            (fun z hz => by
              obtain ⟨y, hy, rfl⟩ := List.mem_map.1 hz
              obtain ⟨f, hfy⟩ := List.getElem?_of_mem hy
              obtain ⟨j, _, _, _, hr⟩ := hf f y (by simpa using hfy)
              exact hr)
            (fun z hz => by
              obtain ⟨y, hy, rfl⟩ := List.mem_map.1 hz
              obtain ⟨f, hfy⟩ := List.getElem?_of_mem hy
              obtain ⟨j, hj, _⟩ := hf f y (by simpa using hfy)
              exact ⟨j, hj⟩) E hp R N
          rw [List.length_map] at L1
          have L1 : vs.length = fs.size := by rw [L1]; simp
          have hcat : (fs.toList.map fun y => (y.type, (cs.drop y.offset).take (P.cellsOf y.type))).flatMap (·.2) = cs := by
            rw [List.flatMap_map]
            rw [flatMap_of_get (n := ts.length) (f := fun f => (cs.drop (Ty.sizes (ts.take f))).take (match ts[f]? with | some t => t.size | none => 0)) (by simpa using hsz) (fun f y hy => ?_)]
            · exact hch
            · obtain ⟨j, _, _, he, _⟩ := hf f y (by simpa using hy)
              exact he
          rw [hcat] at V1
          have hD : ∀ (f : Nat) (y : Field), fs[f]? = some y → ∃ v, ∃ j : TI, vs[f]? = some v ∧ ts[f]? = some j.ty ∧ hasTy v j.ty = true ∧ Rd P tt (hp ++ l1) n y.type v := by
            intro f y hy
            obtain ⟨v, j', hv, hj', ht, _, hr⟩ := D1 f (y.type, (cs.drop y.offset).take (P.cellsOf y.type)) (by rw [List.getElem?_map, Array.getElem?_toList, hy]; rfl)
            obtain ⟨j, hj, htf, _⟩ := hf f y hy
            rw [hj] at hj'
            simp only [Option.some.injEq] at hj'
            subst hj'
            exact ⟨v, j, hv, htf, ht, hr⟩
          refine ⟨E1, l1, .node vs, R1, N1, X1, by simpa only [VRl] using V1, ?_, ?_⟩
          · simp only [hasTy]
            refine hasTys_of (by omega) (fun f v t' hv ht' => ?_)
            have hlt : f < fs.size := by have := (List.getElem?_eq_some_iff.1 hv).1; omega
            obtain ⟨v', j, hv', htf, ht, _⟩ := hD f fs[f] (Array.getElem?_eq_getElem hlt)
            rw [hv] at hv'; rw [ht'] at htf
            simp only [Option.some.injEq] at hv' htf
            rw [hv', htf]; exact ht
          · unfold Rd
            rw [hu]
            exact ⟨vs, rfl, fun f y hy => by obtain ⟨v, j, hv, _, _, hr⟩ := hD f y hy; exact ⟨v, hv, hr⟩⟩
        | int k => rw [hit] at hty; cases hty
        | cell => rw [hit] at hty; cases hty
        | arr a b => rw [hit] at hty; cases hty
      case array m e =>
        simp only [Bool.and_eq_true] at hb
        obtain ⟨⟨hty, hoe⟩, hce⟩ := hb
        cases hit : i.ty with
        | arr m' u =>
          obtain ⟨e', el, hu', hel, hjt⟩ := T.arr t i m' u hi hit
          rw [hu] at hu'
          simp only [Option.some.injEq, TypeDesc.array.injEq] at hu'
          obtain ⟨rfl, rfl⟩ := hu'
          rw [hel] at hce
          simp only [decide_eq_true_eq] at hce
          obtain ⟨xs, n', hn, _, hlen, hxl, hx⟩ := DataW.trod_array hu h
          have hn' : n = n' := by omega
          subst hn'
          have hcell := hok.2 t (by simpa using hm)
          rw [hi] at hcell
          simp only [decide_eq_true_eq] at hcell
          rw [hcell, hit] at hlen
          simp only [Ty.size] at hlen
          rw [← hjt] at hlen
          have hch := chop el.ty.size m cs hlen
          rw [hce] at hx
          obtain ⟨E1, l1, vs, R1, N1, X1, V1, L1, D1⟩ := Read.list (P := P) (tt := tt) (w := w) (n := n) ((List.range m).map fun k => (e, (cs.drop (k * el.ty.size)).take el.ty.size))
            (fun y hy => by
              obtain ⟨k, hk, rfl⟩ := List.mem_map.1 hy
              have hk := List.mem_range.1 hk
              have h4 := hx k hk
              rw [List.getElem?_eq_getElem (by omega)] at h4
              exact read_ok T hok2 n e _ _ hoe h4)
            (fun y hy => by obtain ⟨k, _, rfl⟩ := List.mem_map.1 hy; exact ⟨el, hel⟩) E hp R N
          rw [List.length_map, List.length_range] at L1
          rw [List.flatMap_map, hch] at V1
          have helem : ∀ j, j < m → ∃ v, vs[j]? = some v ∧ hasTy v el.ty = true ∧ Rd P tt (hp ++ l1) n e v := by
            intro j hj
            obtain ⟨v, i', hv, hi', ht, _, hr⟩ := D1 j (e, (cs.drop (j * el.ty.size)).take el.ty.size) (by simp [hj])
            rw [hel] at hi'
            simp only [Option.some.injEq] at hi'
            subst hi'
            exact ⟨v, hv, ht, hr⟩
          obtain ⟨W1, W2, W3, W4⟩ := mkRow_spec (u := el.ty) (fun v hv => by
            obtain ⟨j, hj⟩ := List.getElem?_of_mem hv
            obtain ⟨v', hv', ht, _⟩ := helem j (by have := (List.getElem?_eq_some_iff.1 hj).1; omega)
            rw [hj] at hv'
            simp only [Option.some.injEq] at hv'
            rw [hv']; exact ht) V1
          rw [L1] at W2
          refine ⟨E1, l1, mkRow el.ty vs, R1, N1, X1, W1, by rw [← hjt]; exact W2, ?_⟩
          unfold Rd
          rw [hu]
          intro j hj
          obtain ⟨v, hv, _, hr⟩ := helem j hj
          exact ⟨v, by rw [W3, hv], hr⟩
        | int k => rw [hit] at hty; cases hty
        | cell => rw [hit] at hty; cases hty
        | struct b => rw [hit] at hty; cases hty

open Go.RowKit Go.WideShapes Go.ChangeShapes

theorem value_of_cells (T : TTok P tt) {t : TypeId} {i : TI} (hi : tt t = some i) {W : World} {base : Nat} {v : Value} (hv : Value.okWide P W .any base t v) : v = ofCells i.ty.isAgg v.cells.toList := by
  obtain ⟨d, hd, hA⟩ := T.und hi
  unfold Value.okWide at hv
  rw [hd] at hv
  have one : ∀ x : Value, (∀ cs, x ≠ .agg cs) → x = ofCells false x.cells.toList := by
    intro x hx
    cases x <;> first
      | rfl
      | exact absurd rfl (hx _)
  cases d <;> simp only at hv hA <;> rw [← hA]
  case struct fs => obtain ⟨cs, rfl, _⟩ := hv; simp [ofCells, Value.cells]
  case array m e => obtain ⟨cs, rfl, _⟩ := hv; simp [ofCells, Value.cells]
  all_goals
    refine one v fun cs e => ?_
    subst e
    unfold Cell.okWide at hv
    rw [hd] at hv
    simp only at hv
    try (unfold Cell.ok at hv; rw [hd] at hv; exact hv)

/-- All arguments avs abstract values. -/
theorem read_args (T : TTok P tt) (hok : plainB P tt ok = true) {W : World} {base : Nat} : ∀ (ts : List TypeId) (vs : List Value) (ds : List (DataW H)) (ps : List MemPlace), (∀ t ∈ ts, ok.contains t = true) → (∀ t ∈ ts, ∃ i, tt t = some i) →
    DataW.TrodAll enc P W 0 (fun _ => true) true ts vs ds ps → (∀ (j : Nat) t v, ts[j]? = some t → vs[j]? = some v → Value.okWide P W .any base t v) →
    ∀ E h, RelHeap E h W → NoOwn E h → ∃ E' l avs, RelHeap E' (h ++ l) W ∧ NoOwn E' (h ++ l) ∧ Ext E E' ∧ VRc E' avs vs ∧ avs.length = ts.length ∧ ∀ (j : Nat) t a, ts[j]? = some t → avs[j]? = some a → ∃ n, Rd P tt (h ++ l) n t a
  | [], [], [], ps, _, _, _, _, E, h, R, N => ⟨E, [], [], by simpa using R, by simpa using N, Ext.refl E, by simp [VRc], rfl, fun j t a hj => by simp at hj⟩
  | t :: ts, v :: vs, d :: ds, ps, ho, hi, hr, hv, E, h, R, N => by
    obtain ⟨p, q, ⟨n, h1⟩, h2, _⟩ := hr
    obtain ⟨i, hti⟩ := hi t (List.mem_cons_self ..)
    obtain ⟨E1, l1, a, R1, N1, X1, V1, T1, D1⟩ := read_ok T hok n t _ _ (ho t (List.mem_cons_self ..)) h1 E h R N i hti
    obtain ⟨E2, l2, avs, R2, N2, X2, V2, L2, D2⟩ := read_args T hok ts vs ds q (fun y hy => ho y (List.mem_cons_of_mem _ hy)) (fun y hy => hi y (List.mem_cons_of_mem _ hy)) h2 (fun j t v hj hjv => hv (j + 1) t v (by simpa using hj) (by simpa using hjv)) E1 (h ++ l1) R1 N1
    have hval := value_of_cells T hti (hv 0 t v rfl rfl)
    refine ⟨E2, l1 ++ l2, a :: avs, by rw [← List.append_assoc]; exact R2, by rw [← List.append_assoc]; exact N2, X1.trans X2, ?_, by simp [L2], fun j u b hj hb => ?_⟩
    · simp only [VRc]
      refine ⟨v, vs, rfl, ?_, V2⟩
      rw [hval]
      exact VRel.mono X2 _ _ (VRel.of_cells T1 V1)
    · rw [← List.append_assoc]
      cases j with
      | zero =>
        simp at hj hb; subst hj; subst hb
        exact ⟨n, Rd.app l2 _ _ _ D1⟩
      | succ j => exact D2 j u b (by simpa using hj) (by simpa using hb)
  | [], _ :: _, _, _, _, _, hr, _, _, _, _, _ => by simp [DataW.TrodAll] at hr
  | [], [], _ :: _, _, _, _, hr, _, _, _, _, _ => by simp [DataW.TrodAll] at hr
  | _ :: _, [], _, _, _, _, hr, _, _, _, _, _ => by simp [DataW.TrodAll] at hr
  | _ :: _, _ :: _, [], _, _, _, hr, _, _, _, _, _ => by simp [DataW.TrodAll] at hr

theorem below_of_moves {E E' : Gh} {h h' : Heap} {W W' : World} (N : NoOwn E h) (m : Moves E h W E' h' W') : Below W.heap.size W W' :=
  ⟨m.io.os, m.io.tape, m.io.output, m.size, fun k hk => m.keep k hk fun ⟨i, c, hi, ho, _⟩ => N i c hi ho⟩

def E00 : Gh := ⟨0, fun _ => 0, fun _ => 0, fun _ => 0, fun _ => 0, fun _ => false, fun _ => .cell⟩
theorem rel00 (W : World) : RelHeap E00 [] W := ⟨rfl, fun i b hb => by simp at hb, fun i j b c hb => by simp at hb⟩

theorem trodAll_stays (hl : laidOutB P = true) {W W' : World} (hb : Below W.heap.size W W') (sp' : Nat → Bool) : ∀ (ts : List TypeId) (vs : List Value) (ds : List (DataW H)) (ps : List MemPlace), (∀ t ∈ ts, P.readableRec t = true ∧ t < P.types.size) →
    (∀ x ∈ ps, x.block < W.heap.size) → (∀ x ∈ ps, sp' x.block = true) → DataW.TrodAll enc P W 0 (fun _ => true) true ts vs ds ps → DataW.TrodAll enc P W' 0 sp' true ts vs ds ps
  | [], [], [], ps, _, _, _, h => h
  | t :: ts, v :: vs, d :: ds, ps, ht, hlt, hsp, h => by
    obtain ⟨p, q, h1, h2, rfl⟩ := h
    obtain ⟨hr, hrow⟩ := ht t (List.mem_cons_self ..)
    exact ⟨p, q, WideElems.Trod_stays hl hr hrow h1 (fun x hx => hb.same (hlt x (List.mem_append_left _ hx))) (fun x hx => hsp x (List.mem_append_left _ hx)),
      trodAll_stays hl hb sp' ts vs ds q (fun y hy => ht y (List.mem_cons_of_mem _ hy)) (fun x hx => hlt x (List.mem_append_right _ hx)) (fun x hx => hsp x (List.mem_append_right _ hx)) h2, rfl⟩
  | [], _ :: _, _, _, _, _, _, hr => by simp [DataW.TrodAll] at hr
  | [], [], _ :: _, _, _, _, _, hr => by simp [DataW.TrodAll] at hr
  | _ :: _, [], _, _, _, _, _, hr => by simp [DataW.TrodAll] at hr
  | _ :: _, _ :: _, [], _, _, _, _, hr => by simp [DataW.TrodAll] at hr

/-- A law that answers true, whatever it is handed, and leaves everything avs it was. -/
theorem post_true {f : Func} {s : ChangeSpec} {apart : Bool} {W W' : World} {args : Array Value} {ds : List (DataW H)} {before : List MemPlace} {b : Nat} (hl : laidOutB P = true) (hvars : s.vars = [])
    (hread : ∀ t ∈ f.params.toList, P.readableRec t = true ∧ t < P.types.size) (hres : f.resultTypes = #[b]) (hbool : P.underlying b = some .bool)
    (hs : s.fn H ds = { results := [.lit (.bool true)], args := ds })
    (hW : DataW.Whole enc P f.params.toList s.vars apart W args.toList ds [] before) (hb : Below W.heap.size W W') :
    s.post enc P f apart true false false W args (.bool true) W' := by
  have hlt : ∀ p ∈ before, p.block < W.heap.size := fun p hp => hW.lt p hp
  have hold : ∀ p ∈ before, (fun b => decide (b < W.heap.size)) p.block = true := fun p hp => by simpa using hlt p hp
  have hW0 := hW
  obtain ⟨p, q, h1, h2, he, hz, hn⟩ := hW
  rw [hvars] at h2
  have hq : q = [] := by cases q with | nil => rfl | cons _ _ => simp [DataW.TrodVars] at h2
  subst hq
  simp only [List.append_nil] at he
  subst he
  have hds : ds ++ ([] : List (DataW H)) = ds := List.append_nil _
  have hr1 : (Value.bool true).resultList f.resultTypes.size = [.bool true] := by rw [hres]; rfl
  have hrt : ∀ (bb : Nat) (sp : Nat → Bool) (hd : Bool), DataW.TrodAll enc P W' bb sp hd f.resultTypes.toList ((Value.bool true).resultList f.resultTypes.size) (s.fn H (ds ++ [])).results [] := by
    intro bb sp hd
    rw [hr1, hres, hds, hs]
    exact ⟨[], [], ⟨1, by simp [DataW.trod, Value.cells, hbool]⟩, rfl, rfl⟩
  have hargs : ∀ sp : Nat → Bool, (∀ x ∈ before, sp x.block = true) → DataW.TrodAll enc P W' 0 sp true f.params.toList args.toList (s.fn H (ds ++ [])).args before := by
    intro sp hsp
    rw [hds, hs]
    exact trodAll_stays hl hb sp _ _ _ _ hread hlt hsp h1
  have hvs : ∀ sp : Nat → Bool, DataW.TrodVars enc P W' sp s.vars (s.fn H (ds ++ [])).vars [] := by
    intro sp
    rw [hvars, hds, hs]; rfl
  refine ⟨ds, [], before, [], before, [], hW0, hrt _ _ _, hargs _ hold, hvs _, World.keptBut_mono (fun p hp => ⟨hp, Or.inr (.inl hp)⟩) (hb.frame (· ∈ before)), fun h => by cases h⟩
end
end Go.Vab

/-
  From a law's contract to its row.
-/
namespace Go.Vab
open Go Go.RowKit Go.WideShapes Go.ChangeShapes

/-- What a law is handed, avs it was read. -/
def Handed (P : Program) (tt : Nat → Option TI) (h : Heap) (ts : List TypeId) (avs : List AV) : Prop :=
  avs.length = ts.length ∧ ∀ (j : Nat) t a, ts[j]? = some t → avs[j]? = some a → ∃ n, Rd P tt h n t a

theorem law_lifted {C : Checked} {tt : Nat → Option TI} {ok : List TypeId} {os : Os} {f : FuncId} {fn : Func} {s : ChangeSpec} {b : Nat} {H : Type} {enc : TypeId × Value → H} (T : TTok C.prog tt) (hok : plainB C.prog tt ok = true)
    (own : ownKnob C.prog.godebug = none) (hl : laidOutB C.prog = true) (started : os.Started) (noInit : C.prog.inits.idxOf? f = none) (hfn : C.prog.funcs[f]? = some fn) (hvars : s.vars = [])
    (hread : (fn.params.toList.all fun t => C.prog.readableRec t && decide (t < C.prog.types.size) && ok.contains t && (tt t).isSome) = true) (hres : fn.resultTypes = #[b]) (hbool : C.prog.underlying b = some .bool)
    (hs : ∀ ds : List (DataW H), ds.length = fn.params.size → s.fn H ds = { results := [.lit (.bool true)], args := ds })
    (witness : ∃ (w : World) (tape : Tape) (i : Input), w.os = os ∧ (w.forCall tape i).Shaped C.prog ∧ i.vars = [] ∧ Input.okWide C.prog (w.forCall tape i) .any w.heap.size f i ∧
      s.pre6 enc C.prog fn [] false (w.forCall tape i).memory i.args ∧ ({ modest := false } : Assume).holds C.prog (lone (Frame.enter C.prog f i.args .normal) [] (w.forCall tape i)))
    (spec : ∀ avs h, Handed C.prog tt h fn.params.toList avs → ∃ h', Spec C.prog f avs h (.bool true) h') :
    ReturnsInHanded {} C os f .any (s.pre6 enc C.prog fn [] false) (s.post enc C.prog fn false true false false) := by
  refine returnsInHanded_of_change own started noInit hfn witness ?_
  intro W base args ds gs before hval hW _ _
  simp only [List.all_eq_true, Bool.and_eq_true, decide_eq_true_eq] at hread
  have hW0 := hW
  obtain ⟨p, q, h1, h2, he, hz, hn⟩ := hW
  have hgs : gs = [] := by
    rw [hvars] at h2
    cases gs with
    | nil => rfl
    | cons _ _ => simp [DataW.TrodVars] at h2
  subst hgs
  obtain ⟨E, l, avs, R, N, X, V, L, D⟩ := read_args T hok fn.params.toList args.toList ds p (fun t ht => (hread t ht).1.2) (fun t ht => Option.isSome_iff_exists.1 (hread t ht).2) h1 (fun j t v hj hv => hval j t v (by simpa using hj) (by simpa using hv)) E00 [] (rel00 W) (fun i b hb => by simp at hb)
  simp only [List.nil_append] at R N D
  obtain ⟨h', hsp⟩ := spec avs l ⟨L, D⟩
  have hlen : ds.length = fn.params.size := by
    have : ∀ (ts : List TypeId) (vs : List Value) (ds : List (DataW H)) (ps : List MemPlace), DataW.TrodAll enc C.prog W 0 (fun _ => true) true ts vs ds ps → ds.length = ts.length := by
      intro ts
      induction ts with
      | nil =>
        intro vs ds ps h
        cases vs <;> cases ds <;> simp [DataW.TrodAll] at h ⊢
      | cons t ts ih =>
        intro vs ds ps h
        cases vs <;> cases ds <;> simp only [DataW.TrodAll] at h
        obtain ⟨_, _, _, h, _⟩ := h
        simp [ih _ _ _ h]
    rw [this _ _ _ _ h1]; simp
  have hc := hsp E W args.toList R V
  simp only [Array.toArray_toList] at hc
  refine hc.mono fun e W' hp => ?_
  obtain ⟨E', x, rfl, hx, m⟩ := hp
  simp only [VRel] at hx
  subst hx
  exact ⟨_, rfl, post_true hl hvars (fun t ht => (hread t ht).1.1) hres hbool (hs ds hlen) hW0 (below_of_moves N m)⟩

end Go.Vab

/-
  Arrays of bytes as functions.
-/
namespace Go.Vab
open Go

def arr (n : Nat) (g : Nat → BitVec 8) : AV := bytes ((List.range n).map g)
def mat (m n : Nat) (g : Nat → Nat → BitVec 8) : AV := .node ((List.range m).map fun i => arr n (g i))
def upd {α : Type} (g : Nat → α) (i : Nat) (x : α) : Nat → α := fun j => if j = i then x else g j

@[simp] theorem upd_same {α : Type} (g : Nat → α) (i : Nat) (x : α) : upd g i x i = x := by simp [upd]
theorem upd_ne {α : Type} (g : Nat → α) {i j : Nat} (x : α) (h : j ≠ i) : upd g i x j = g j := by simp [upd, h]

@[simp] theorem toNat8_lt (x : BitVec 8) : x.toNat < 256 := x.isLt

theorem range_map_getD {α : Type} (n : Nat) (g : Nat → α) (i : Nat) : ((List.range n).map g)[i]? = if i < n then some (g i) else none := by
  rw [List.getElem?_map]
  by_cases h : i < n
  · simp [h]
  · rw [List.getElem?_eq_none (by simpa using h), if_neg h]; rfl

theorem range_map_set {α : Type} (n : Nat) (g : Nat → α) (i : Nat) (x : α) : ((List.range n).map g).set i x = (List.range n).map (upd g i x) := by
  apply List.ext_getElem?
  intro j
  rw [List.getElem?_set, range_map_getD, range_map_getD]
  by_cases h : i = j
  · subst h; simp
  · have h' : ¬ j = i := fun e => h e.symm
    rw [if_neg h]; simp [upd, h']

@[simp] theorem arr_get (n : Nat) (g : Nat → BitVec 8) (i : Nat) : (arr n g).get [i] = if i < n then some (u8 (g i)) else none := by
  unfold arr
  rw [bytes_get, range_map_getD]
  split <;> rfl
@[simp] theorem arr_put (n : Nat) (g : Nat → BitVec 8) (i : Nat) (x : BitVec 8) : (arr n g).put [i] (u8 x) = if i < n then some (arr n (upd g i x)) else none := by
  unfold arr
  rw [bytes_put, range_map_set]
  simp
@[simp] theorem mat_get (m n : Nat) (g : Nat → Nat → BitVec 8) (i : Nat) (r : List Nat) : (mat m n g).get (i :: r) = if i < m then (arr n (g i)).get r else none := by
  unfold mat
  rw [get_node, range_map_getD]
  split <;> rfl
@[simp] theorem mat_put (m n : Nat) (g : Nat → Nat → BitVec 8) (i : Nat) (f : Nat → BitVec 8) : (mat m n g).put [i] (arr n f) = if i < m then some (mat m n (upd g i f)) else none := by
  unfold mat
  rw [put_node, range_map_getD]
  split
  · simp only [bnd_some, put_nil, range_map_set]
    congr 2
    apply List.map_congr_left
    intro j _
    by_cases h : j = i
    · subst h; simp
    · simp [upd, h]
  · rfl
@[simp] theorem mat_put2 (m n : Nat) (g : Nat → Nat → BitVec 8) (i p : Nat) (x : BitVec 8) : (mat m n g).put [i, p] (u8 x) = if i < m then if p < n then some (mat m n (upd g i (upd (g i) p x))) else none else none := by
  unfold mat
  rw [put_node, range_map_getD]
  split
  · simp only [bnd_some, arr_put]
    split
    · simp only [bnd_some, range_map_set]
      congr 2
      apply List.map_congr_left
      intro j _
      by_cases h : j = i
      · subst h; simp
      · simp [upd, h]
    · rfl
  · rfl
theorem arr_congr {n : Nat} {g g' : Nat → BitVec 8} (h : ∀ i, i < n → g i = g' i) : arr n g = arr n g' := by
  unfold arr
  congr 1
  exact List.map_congr_left fun i hi => h i (List.mem_range.1 hi)
theorem arr_inj {n : Nat} {g g' : Nat → BitVec 8} : arr n g = arr n g' ↔ ∀ i, i < n → g i = g' i := by
  constructor
  · intro h i hi
    have := bytes_inj.1 h
    have h2 : ((List.range n).map g)[i]? = ((List.range n).map g')[i]? := by rw [this]
    simpa [range_map_getD, hi] using h2
  · exact arr_congr
theorem mat_congr {m n : Nat} {g g' : Nat → Nat → BitVec 8} (h : ∀ i, i < m → ∀ p, p < n → g i p = g' i p) : mat m n g = mat m n g' := by
  unfold mat
  congr 1
  exact List.map_congr_left fun i hi => arr_congr (h i (List.mem_range.1 hi))
theorem bytes_arr (xs : List (BitVec 8)) {n : Nat} (hn : xs.length = n) : bytes xs = arr n fun i => xs.getD i 0#8 := by
  unfold arr
  congr 1
  apply List.ext_getElem?
  intro i
  rw [range_map_getD]
  by_cases h : i < n
  · rw [if_pos h, List.getD_eq_getElem?_getD, List.getElem?_eq_getElem (by omega)]; rfl
  · rw [if_neg h, List.getElem?_eq_none (by omega)]
@[simp] theorem hasTy_arr (n k : Nat) (g : Nat → BitVec 8) : hasTy (arr n g) (.arr k (.int .u8)) = decide (n = k) := by simp [arr]
@[simp] theorem hasTy_mat (m n : Nat) (g : Nat → Nat → BitVec 8) : hasTy (mat m n g) (.arr m (.arr n (.int .u8))) = true := by
  unfold mat
  simp only [hasTy, List.length_map, List.length_range, decide_true, Bool.true_and]
  rw [hasTyAll_iff]
  intro v hv
  obtain ⟨i, _, rfl⟩ := List.mem_map.1 hv
  simp
@[simp] theorem arr_cut (n : Nat) (g : Nat → BitVec 8) (off k : Nat) : (arr n g).cut off k = if off + k ≤ n then some (arr k fun i => g (off + i)) else none := by
  simp only [arr, bytes, AV.cut, List.length_map, List.length_range]
  split
  · rename_i h
    congr 2
    apply List.ext_getElem?
    intro i
    simp only [List.getElem?_take, List.getElem?_drop, List.getElem?_map]
    by_cases hi : i < k
    · rw [if_pos hi]
      rw [List.getElem?_range (by omega), List.getElem?_range hi]; rfl
    · rw [if_neg hi, List.getElem?_eq_none (l := List.range k) (by simpa using hi)]; rfl
  · rfl
open Classical in
theorem eqv_arr (n : Nat) (g g' : Nat → BitVec 8) : eqv (arr n g) (arr n g') = some (decide (∀ i, i < n → g i = g' i)) := by
  unfold arr
  rw [eqv_bytes _ _ (by simp)]
  congr 1
  rw [decide_eq_decide]
  have := arr_inj (n := n) (g := g) (g' := g')
  rw [← this]
  exact bytes_inj.symm
@[simp] theorem arr_rowLen (n : Nat) (g : Nat → BitVec 8) : (arr n g).rowLen = some n := by simp [arr, bytes, AV.rowLen]
@[simp] theorem mat_rowLen (m n : Nat) (g : Nat → Nat → BitVec 8) : (mat m n g).rowLen = some m := by simp [mat, AV.rowLen]
@[simp] theorem mSliceA_nat (n : Nat) (u : Ty) (b ver : Nat) (path : List Nat) (l q : Nat) : mSliceA (.arr n u) (.ptr b ver path (.arr n u)) (some (nat l)) (some (nat q)) none = if q ≤ n ∧ l ≤ q then some (.slice b ver path u l (q - l) (some (n - l))) else none := by
  simp only [mSliceA, Ty.beq_self, if_true, optBound, mBound, asNat_nat, bnd_some]
  by_cases h : q ≤ n
  · simp only [h, if_true, bnd_some, true_and]
    by_cases h2 : l ≤ q
    · simp [h2]
    · simp [h2]
  · simp [h]
@[simp] theorem mArrayAt_slice (n : Nat) (t : Ty) (i ver : Nat) (path : List Nat) (off len : Nat) (cap : Option Nat) : mArrayAt n t (.slice i ver path t off len cap) = if n ≤ len ∧ 0 < n then some (.win i ver path t off n) else none := by
  simp only [mArrayAt, Ty.beq_self, Bool.true_and, Bool.and_eq_true, decide_eq_true_eq]
@[simp] theorem mLoad_win (n : Nat) (t : Ty) (i ver : Nat) (path : List Nat) (off : Nat) (h : Heap) : mLoad (.arr n t) (.win i ver path t off n) h = bnd (blkAt h i ver) fun b => bnd (b.v.get path) fun r => r.cut off n := by
  simp [mLoad]
@[simp] theorem mNilCheck_ptr (i ver : Nat) (path : List Nat) (t : Ty) : mNilCheck (.ptr i ver path t) = some (.ptr i ver path t) := rfl

end Go.Vab

/- The types of a seat, as the evaluator wants them. Printed by wip/tools/gen.py (own work). -/
namespace Go.Vab
open Go Go.Proofs
def ty66 : Ty := (.struct [(.int .u64), (.int .u64)])
theorem ty66_x : ty66 = (.struct [(.int .u64), (.int .u64)]) := rfl
@[simp] theorem hasTy_ty66 (vs : List AV) : hasTy (.node vs) ty66 = hasTys vs [(.int .u64), (.int .u64)] := rfl
@[simp] theorem size_ty66 : Ty.size ty66 = 2 := by rfl
@[simp] theorem mFieldAddr_ty66_0 (b ver : Nat) (path : List Nat) : mFieldAddr ty66 (.ptr b ver path ty66) 0 = some (.ptr b ver (path ++ [0]) (.int .u64)) := by simp [mFieldAddr, ty66]
@[simp] theorem mField_ty66_0 (vs : List AV) : mField ty66 (.node vs) 0 = if hasTys vs [(.int .u64), (.int .u64)] then vs[0]? else none := rfl
@[simp] theorem mFieldAddr_ty66_1 (b ver : Nat) (path : List Nat) : mFieldAddr ty66 (.ptr b ver path ty66) 1 = some (.ptr b ver (path ++ [1]) (.int .u64)) := by simp [mFieldAddr, ty66]
@[simp] theorem mField_ty66_1 (vs : List AV) : mField ty66 (.node vs) 1 = if hasTys vs [(.int .u64), (.int .u64)] then vs[1]? else none := rfl
def ttl : List (Nat × TI) := [
  (3, ⟨(.int .i64), 8, (nat 0), none, some .i64, false, none, false⟩),
  (4, ⟨.cell, 1, (.bool false), none, none, false, none, true⟩),
  (5, ⟨(.int .u8), 1, (u8 0#8), none, some .u8, false, none, false⟩),
  (9, ⟨.cell, 16, (.str .empty), none, none, true, none, false⟩),
  (26, ⟨(.arr 32 (.int .u8)), 32, (arr 32 fun _ => 0#8), none, none, false, none, false⟩),
  (27, ⟨(.arr 16 (.int .u8)), 16, (arr 16 fun _ => 0#8), none, none, false, none, false⟩),
  (32, ⟨(.arr 4 (.int .u8)), 4, (arr 4 fun _ => 0#8), none, none, false, none, false⟩),
  (33, ⟨(.arr 60 (.arr 4 (.int .u8))), 240, (mat 60 4 fun _ _ => 0#8), none, none, false, none, false⟩),
  (36, ⟨(.arr 12 (.int .u8)), 12, (arr 12 fun _ => 0#8), none, none, false, none, false⟩),
  (37, ⟨.cell, 24, .nilslice, some 5, none, false, none, false⟩),
  (40, ⟨(.int .i64), 8, (nat 0), none, some .i64, false, none, false⟩),
  (52, ⟨(.int .u64), 8, (u64 0#64), none, some .u64, false, none, false⟩),
  (54, ⟨(.arr 256 (.int .u8)), 256, (arr 256 fun _ => 0#8), none, none, false, none, false⟩),
  (65, ⟨(.int .u64), 8, (u64 0#64), none, some .u64, false, none, false⟩),
  (67, ⟨ty66, 16, (.node [(u64 0#64), (u64 0#64)]), none, none, false, none, false⟩),
  (72, ⟨(.arr 128 (.int .i64)), 1024, (.ints .i64 (List.replicate 128 0)), none, none, false, none, false⟩),
  (77, ⟨(.arr 4 (.arr 4 (.int .u8))), 16, (mat 4 4 fun _ _ => 0#8), none, none, false, none, false⟩),
  (81, ⟨(.arr 255 (.int .i64)), 2040, (.ints .i64 (List.replicate 255 0)), none, none, false, none, false⟩)]
def TT : Nat → Option TI := tabOf ttl
theorem TT_ok : TTok Try.prog TT := ttB_ok (by kernel_rfl)
theorem mixed_ok : Try.prog.follows .mixedOrders = true := by kernel_rfl
end Go.Vab

/-
  The seat's closed facts.
-/
namespace Go.Proofs.Ytfolmjdaemoojaa
open Go.Vab

theorem ownV : ownKnob Try.prog.godebug = none := by kernel_rfl
theorem laidV : laidOutB Try.prog = true := by kernel_rfl
def okV : List TypeId := [3, 4, 5, 26, 27, 36, 37]
theorem plainV : plainB Try.prog TT okV = true := by kernel_rfl
theorem boolV : Try.prog.underlying 4 = some .bool := by kernel_rfl
theorem und5 : Try.prog.underlying 5 = some (.int .u8) := by kernel_rfl
theorem und26 : Try.prog.underlying 26 = some (.array 32 5) := by kernel_rfl
theorem und27 : Try.prog.underlying 27 = some (.array 16 5) := by kernel_rfl
theorem und36 : Try.prog.underlying 36 = some (.array 12 5) := by kernel_rfl
theorem und37 : Try.prog.underlying 37 = some (.slice 5) := by kernel_rfl
theorem tt5 : TT 5 = some ⟨(.int .u8), 1, (u8 0#8), none, some .u8, false, none, false⟩ := by kernel_rfl

theorem rd5 {h : Heap} {n : Nat} {a : AV} (hr : Rd Try.prog TT h n 5 a) : ∃ x : BitVec 8, a = u8 x := by
  cases n with
  | zero => exact hr.elim
  | succ n =>
    simp only [Rd, und5] at hr
    obtain ⟨x, rfl, hw⟩ := hr
    simp [Lit.wf, IntKind.min, IntKind.max, IntKind.signed, IntKind.bits] at hw
    refine ⟨BitVec.ofInt 8 x, ?_⟩
    unfold u8
    rw [BitVec.toNat_ofInt]
    congr 1
    have h2 : ((2 ^ 8 : Nat) : Int) = 256 := rfl
    omega

end Go.Proofs.Ytfolmjdaemoojaa

/-
  The product of two elements, bit by bit.
-/
namespace Go.Vab

def xt (a : BitVec 8) : BitVec 8 := a <<< 1 ^^^ (a >>> 7) * 27#8

def mulL : Nat → BitVec 8 → BitVec 8 → BitVec 8 → BitVec 8
  | 0, _, _, c => c
  | n + 1, a, b, c => mulL n (xt a) (b >>> 1) (if b &&& 1#8 = 1#8 then c ^^^ a else c)

def mulB (a b : BitVec 8) : BitVec 8 := mulL 8 a b 0#8

theorem mulL_zero : ∀ (n : Nat) (a c : BitVec 8), mulL n a 0#8 c = c
  | 0, _, _ => rfl
  | n + 1, a, c => by
    simp only [mulL]
    rw [show (0#8 >>> 1 : BitVec 8) = 0#8 from rfl, if_neg (by simp), mulL_zero n]

def rotB (x : BitVec 8) (n : Nat) : BitVec 8 := x <<< (n % 8) ||| x >>> (8 - n % 8)

def powL : Nat → Nat → BitVec 8 → BitVec 8 → BitVec 8
  | 0, _, b, _ => b
  | f + 1, n, b, c => powL f (n / 2) (if n % 2 = 1 then mulB b c else b) (mulB c c)

def invB (a : BitVec 8) : BitVec 8 := powL 8 254 1#8 a
def subB (a : BitVec 8) : BitVec 8 := invB a ^^^ rotB (invB a) 1 ^^^ rotB (invB a) 2 ^^^ rotB (invB a) 3 ^^^ rotB (invB a) 4 ^^^ 99#8

theorem powL_zero : ∀ (f : Nat) (b c : BitVec 8), powL f 0 b c = b
  | 0, _, _ => rfl
  | f + 1, b, c => by simp [powL, powL_zero f]

end Go.Vab

/-
  The field of 256 elements.
-/
namespace Go.Vab

def all256 (f : BitVec 8 → Bool) : Bool := (List.range 256).all fun i => f (BitVec.ofNat 8 i)
theorem all256_spec {f : BitVec 8 → Bool} (h : all256 f = true) (x : BitVec 8) : f x = true := by
  simp only [all256, List.all_eq_true, List.mem_range] at h
  have := h x.toNat x.isLt
  simpa using this
def bq (x y : BitVec 8) : Bool := Nat.beq x.toNat y.toNat
theorem bq_eq {x y : BitVec 8} (h : bq x y = true) : x = y := BitVec.eq_of_toNat_eq (Nat.eq_of_beq_eq_true h)
theorem bq_ne {x y : BitVec 8} (h : bq x y = false) : x ≠ y := by
  rintro rfl
  unfold bq at h
  rw [Nat.beq_refl] at h; cases h

def Add (f : BitVec 8 → BitVec 8) : Prop := ∀ x y, f (x ^^^ y) = f x ^^^ f y

theorem Add.zero {f : BitVec 8 → BitVec 8} (h : Add f) : f 0#8 = 0#8 := by
  have := h 0#8 0#8
  simpa using this

def bitsOf (x : BitVec 8) : BitVec 8 := (x &&& 1#8) ^^^ (x &&& 2#8) ^^^ (x &&& 4#8) ^^^ (x &&& 8#8) ^^^ (x &&& 16#8) ^^^ (x &&& 32#8) ^^^ (x &&& 64#8) ^^^ (x &&& 128#8)
theorem bitsOf_eq (x : BitVec 8) : bitsOf x = x := bq_eq (all256_spec (f := fun x => bq (bitsOf x) x) (by kernel_rfl) x)
theorem bit_or (k : Nat) (hk : k < 8) (x : BitVec 8) : x &&& BitVec.ofNat 8 (2 ^ k) = 0#8 ∨ x &&& BitVec.ofNat 8 (2 ^ k) = BitVec.ofNat 8 (2 ^ k) := by
  have h : (List.range 8).all (fun k => all256 fun x => bq (x &&& BitVec.ofNat 8 (2 ^ k)) 0#8 || bq (x &&& BitVec.ofNat 8 (2 ^ k)) (BitVec.ofNat 8 (2 ^ k))) = true := by kernel_rfl
  simp only [List.all_eq_true, List.mem_range] at h
  have := all256_spec (h k hk) x
  rw [Bool.or_eq_true] at this
  exact this.imp bq_eq bq_eq

theorem Add.bit {f g : BitVec 8 → BitVec 8} (hf : Add f) (hg : Add g) (k : Nat) (hk : k < 8) (h : f (BitVec.ofNat 8 (2 ^ k)) = g (BitVec.ofNat 8 (2 ^ k))) (x : BitVec 8) : f (x &&& BitVec.ofNat 8 (2 ^ k)) = g (x &&& BitVec.ofNat 8 (2 ^ k)) := by
  rcases bit_or k hk x with e | e
  · rw [e, hf.zero, hg.zero]
  · rw [e, h]

/-- Additive maps that agree on eight elements agree. -/
theorem Add.ext {f g : BitVec 8 → BitVec 8} (hf : Add f) (hg : Add g) (h : ∀ k, k < 8 → f (BitVec.ofNat 8 (2 ^ k)) = g (BitVec.ofNat 8 (2 ^ k))) (x : BitVec 8) : f x = g x := by
  have e : ∀ k, k < 8 → f (x &&& BitVec.ofNat 8 (2 ^ k)) = g (x &&& BitVec.ofNat 8 (2 ^ k)) := fun k hk => hf.bit hg k hk (h k hk) x
  rw [← bitsOf_eq x]
  unfold bitsOf
  simp only [hf _ _, hg _ _]
  rw [show (1#8 : BitVec 8) = BitVec.ofNat 8 (2 ^ 0) from rfl, e 0 (by decide), show (2#8 : BitVec 8) = BitVec.ofNat 8 (2 ^ 1) from rfl, e 1 (by decide), show (4#8 : BitVec 8) = BitVec.ofNat 8 (2 ^ 2) from rfl, e 2 (by decide),
    show (8#8 : BitVec 8) = BitVec.ofNat 8 (2 ^ 3) from rfl, e 3 (by decide), show (16#8 : BitVec 8) = BitVec.ofNat 8 (2 ^ 4) from rfl, e 4 (by decide), show (32#8 : BitVec 8) = BitVec.ofNat 8 (2 ^ 5) from rfl, e 5 (by decide),
    show (64#8 : BitVec 8) = BitVec.ofNat 8 (2 ^ 6) from rfl, e 6 (by decide), show (128#8 : BitVec 8) = BitVec.ofNat 8 (2 ^ 7) from rfl, e 7 (by decide)]

theorem xt_add : Add xt := by
  have e : ∀ a : BitVec 8, (a >>> 7) * 27#8 = if a.getLsbD 7 = true then 27#8 else 0#8 := fun a =>
    bq_eq (all256_spec (f := fun a => bq ((a >>> 7) * 27#8) (if a.getLsbD 7 = true then 27#8 else 0#8)) (by kernel_rfl) a)
  intro x y
  unfold xt
  rw [e, e, e, BitVec.shiftLeft_xor_distrib, BitVec.getLsbD_xor]
  have ac : ∀ p q r t : BitVec 8, (p ^^^ r) ^^^ (q ^^^ t) = (p ^^^ q) ^^^ (r ^^^ t) := fun p q r t => by ac_rfl
  rw [ac]
  congr 1
  cases x.getLsbD 7 <;> cases y.getLsbD 7 <;> rfl

theorem xor4 (p q r t : BitVec 8) : (p ^^^ r) ^^^ (q ^^^ t) = (p ^^^ q) ^^^ (r ^^^ t) := by ac_rfl

theorem mulL_addL : ∀ (n : Nat) (a a' b c c' : BitVec 8), mulL n (a ^^^ a') b (c ^^^ c') = mulL n a b c ^^^ mulL n a' b c'
  | 0, _, _, _, _, _ => rfl
  | n + 1, a, a', b, c, c' => by
    simp only [mulL]
    rw [xt_add]
    split
    · rw [show (c ^^^ c') ^^^ (a ^^^ a') = (c ^^^ a) ^^^ (c' ^^^ a') from xor4 c a c' a', mulL_addL n]
    · rw [mulL_addL n]

theorem mulL_addR : ∀ (n : Nat) (a b b' c c' : BitVec 8), mulL n a (b ^^^ b') (c ^^^ c') = mulL n a b c ^^^ mulL n a b' c'
  | 0, _, _, _, _, _ => rfl
  | n + 1, a, b, b', c, c' => by
    have bit : ∀ x : BitVec 8, (x &&& 1#8 = 1#8) ↔ x.getLsbD 0 = true := fun x => by
      have := all256_spec (f := fun x => (bq (x &&& 1#8) 1#8) == x.getLsbD 0) (by kernel_rfl) x
      simp only [beq_iff_eq] at this
      rw [← this]
      constructor
      · intro h; rw [h]; rfl
      · exact bq_eq
    simp only [mulL]
    rw [BitVec.ushiftRight_xor_distrib]
    simp only [bit, BitVec.getLsbD_xor]
    have e : (if (b.getLsbD 0 ^^ b'.getLsbD 0) = true then (c ^^^ c') ^^^ a else c ^^^ c') = (if b.getLsbD 0 = true then c ^^^ a else c) ^^^ (if b'.getLsbD 0 = true then c' ^^^ a else c') := by
      cases b.getLsbD 0 <;> cases b'.getLsbD 0 <;> simp
      · ac_rfl
      · ac_rfl
      · rw [show (c ^^^ a) ^^^ (c' ^^^ a) = (c ^^^ c') ^^^ (a ^^^ a) from xor4 c c' a a]; simp
    rw [e, mulL_addR n]

theorem mul_addL (b : BitVec 8) : Add fun a => mulB a b := fun x y => by
  have := mulL_addL 8 x y b 0#8 0#8
  simpa [mulB] using this
theorem mul_addR (a : BitVec 8) : Add fun b => mulB a b := fun x y => by
  have := mulL_addR 8 a x y 0#8 0#8
  simpa [mulB] using this

def bas (f : Nat → Bool) : Bool := (List.range 8).all f
theorem bas_spec {f : Nat → Bool} (h : bas f = true) {k : Nat} (hk : k < 8) : f k = true := by
  simp only [bas, List.all_eq_true, List.mem_range] at h
  exact h k hk

theorem mul_comm (a b : BitVec 8) : mulB a b = mulB b a :=
  Add.ext (f := fun a => mulB a b) (g := fun a => mulB b a) (mul_addL b) (mul_addR b) (fun i hi =>
    Add.ext (f := fun b => mulB (BitVec.ofNat 8 (2 ^ i)) b) (g := fun b => mulB b (BitVec.ofNat 8 (2 ^ i))) (mul_addR _) (mul_addL _) (fun j hj =>
      bq_eq (bas_spec (bas_spec (f := fun i => bas fun j => bq (mulB (BitVec.ofNat 8 (2 ^ i)) (BitVec.ofNat 8 (2 ^ j))) (mulB (BitVec.ofNat 8 (2 ^ j)) (BitVec.ofNat 8 (2 ^ i)))) (by kernel_rfl) hi) hj)) b) a

theorem Add.comp {f g : BitVec 8 → BitVec 8} (hf : Add f) (hg : Add g) : Add fun x => f (g x) := fun x y => by
  simp only; rw [hg, hf]

theorem mul_assoc (a b c : BitVec 8) : mulB (mulB a b) c = mulB a (mulB b c) :=
  Add.ext (f := fun a => mulB (mulB a b) c) (g := fun a => mulB a (mulB b c)) ((mul_addL c).comp (mul_addL b)) (mul_addL _) (fun i hi =>
    Add.ext (f := fun b => mulB (mulB (BitVec.ofNat 8 (2 ^ i)) b) c) (g := fun b => mulB (BitVec.ofNat 8 (2 ^ i)) (mulB b c)) ((mul_addL c).comp (mul_addR _)) ((mul_addR _).comp (mul_addL c)) (fun j hj =>
      Add.ext (f := fun c => mulB (mulB (BitVec.ofNat 8 (2 ^ i)) (BitVec.ofNat 8 (2 ^ j))) c) (g := fun c => mulB (BitVec.ofNat 8 (2 ^ i)) (mulB (BitVec.ofNat 8 (2 ^ j)) c)) (mul_addR _) ((mul_addR _).comp (mul_addR _)) (fun k hk =>
        bq_eq (bas_spec (bas_spec (bas_spec (f := fun i => bas fun j => bas fun k => bq (mulB (mulB (BitVec.ofNat 8 (2 ^ i)) (BitVec.ofNat 8 (2 ^ j))) (BitVec.ofNat 8 (2 ^ k))) (mulB (BitVec.ofNat 8 (2 ^ i)) (mulB (BitVec.ofNat 8 (2 ^ j)) (BitVec.ofNat 8 (2 ^ k))))) (by kernel_rfl) hi) hj) hk)) c) b) a

theorem mul_one (a : BitVec 8) : mulB a 1#8 = a :=
  bq_eq (all256_spec (f := fun a => bq (mulB a 1#8) a) (by kernel_rfl) a)
theorem mul_zero (a : BitVec 8) : mulB a 0#8 = 0#8 := (mul_addR a).zero
theorem zero_mul (a : BitVec 8) : mulB 0#8 a = 0#8 := (mul_addL a).zero

end Go.Vab

/-
  Inverses and substitutes.
-/
namespace Go.Vab

theorem inv_mul {a : BitVec 8} (h : a ≠ 0#8) : mulB (invB a) a = 1#8 := by
  have := all256_spec (f := fun a => bq a 0#8 || bq (mulB (invB a) a) 1#8) (by kernel_rfl) a
  rw [Bool.or_eq_true] at this
  rcases this with h1 | h1
  · exact absurd (bq_eq h1) h
  · exact bq_eq h1

theorem mul_eq_zero {a b : BitVec 8} (h : mulB a b = 0#8) : a = 0#8 ∨ b = 0#8 := by
  by_cases ha : a = 0#8
  · exact .inl ha
  · right
    have := mul_assoc (invB a) a b
    rw [inv_mul ha, h, mul_zero, mul_comm, mul_one] at this
    exact this

def isub : List Nat := [82, 9, 106, 213, 48, 54, 165, 56, 191, 64, 163, 158, 129, 243, 215, 251, 124, 227, 57, 130, 155, 47, 255, 135, 52, 142, 67, 68, 196, 222, 233, 203, 84, 123, 148, 50, 166, 194, 35, 61, 238, 76, 149, 11, 66, 250, 195, 78, 8, 46, 161, 102, 40, 217, 36, 178, 118, 91, 162, 73, 109, 139, 209, 37, 114, 248, 246, 100, 134, 104, 152, 22, 212, 164, 92, 204, 93, 101, 182, 146, 108, 112, 72, 80, 253, 237, 185, 218, 94, 21, 70, 87, 167, 141, 157, 132, 144, 216, 171, 0, 140, 188, 211, 10, 247, 228, 88, 5, 184, 179, 69, 6, 208, 44, 30, 143, 202, 63, 15, 2, 193, 175, 189, 3, 1, 19, 138, 107, 58, 145, 17, 65, 79, 103, 220, 234, 151, 242, 207, 206, 240, 180, 230, 115, 150, 172, 116, 34, 231, 173, 53, 133, 226, 249, 55, 232, 28, 117, 223, 110, 71, 241, 26, 113, 29, 41, 197, 137, 111, 183, 98, 14, 170, 24, 190, 27, 252, 86, 62, 75, 198, 210, 121, 32, 154, 219, 192, 254, 120, 205, 90, 244, 31, 221, 168, 51, 136, 7, 199, 49, 177, 18, 16, 89, 39, 128, 236, 95, 96, 81, 127, 169, 25, 181, 74, 13, 45, 229, 122, 159, 147, 201, 156, 239, 160, 224, 59, 77, 174, 42, 245, 176, 200, 235, 187, 60, 131, 83, 153, 97, 23, 43, 4, 126, 186, 119, 214, 38, 225, 105, 20, 99, 85, 33, 12, 125]

theorem isub_sub (a : BitVec 8) : BitVec.ofNat 8 (isub.getD (subB a).toNat 0) = a :=
  bq_eq (all256_spec (f := fun a => bq (BitVec.ofNat 8 (isub.getD (subB a).toNat 0)) a) (by kernel_rfl) a)
theorem sub_inj {a b : BitVec 8} (h : subB a = subB b) : a = b := by
  rw [← isub_sub a, ← isub_sub b, h]
theorem sub_ne (a : BitVec 8) : subB a ≠ a := by
  have := all256_spec (f := fun a => !bq (subB a) a) (by kernel_rfl) a
  simp only [Bool.not_eq_true'] at this
  exact bq_ne this

end Go.Vab

/- How the evaluator reads the functions of a seat. Printed by wip/tools/gen.py (own work). -/
namespace Go.Vab
open Go Go.Proofs
/-! vestry/aes.Mul -/
noncomputable def cx14 (call : Calling) : Ctx := ⟨call, TT, 25, [7, 9, 10, 11, 12, 14, 15, 16, 17, 18, 19, 20, 21, 22, 23, 24]⟩
noncomputable def n14_0 : Code := bodyOf Try.f14
noncomputable def n14_1 : Code := cR n14_0
noncomputable def n14_2 : Code := cR n14_1
noncomputable def n14_3 : Code := cL n14_2
noncomputable def n14_4 : Code := cB n14_3
noncomputable def n14_5 : Code := cB n14_4
noncomputable def n14_6 : Code := cL n14_5
noncomputable def n14_7 : Code := cR n14_6
noncomputable def n14_8 : Code := cL n14_7
noncomputable def n14_9 : Code := cR n14_7
noncomputable def n14_10 : Code := cR n14_5
noncomputable def n14_11 : Code := cL n14_10
noncomputable def n14_12 : Code := cB n14_11
noncomputable def n14_13 : Code := cL n14_12
noncomputable def n14_14 : Code := cR n14_13
noncomputable def n14_15 : Code := cL n14_14
noncomputable def n14_16 : Code := cR n14_14
noncomputable def n14_17 : Code := cR n14_12
noncomputable def n14_18 : Code := cR n14_17
noncomputable def n14_19 : Code := cR n14_10
noncomputable def n14_20 : Code := cR n14_2
noncomputable def n14_21 : Code := cR n14_20
@[simp] theorem n14_8_eq (call : Calling) (s : St) : evC (cx14 call) n14_8 s = some (.nrm, s) := ev_skip (by kernel_rfl)
@[simp] theorem n14_9_eq (call : Calling) (s : St) : evC (cx14 call) n14_9 s = some (.exit 0, s) := ev_exit 0 (by kernel_rfl)
@[simp] theorem n14_7_eq (call : Calling) (s : St) : evC (cx14 call) n14_7 s = cnd (s.env.get 8) (evC (cx14 call) n14_8 s) (evC (cx14 call) n14_9 s) := ev_cond 8 _ _ (by kernel_rfl)
@[simp] theorem n14_6_eq (call : Calling) (env : Env) (h : Heap) : evC (cx14 call) n14_6 ⟨env, h⟩ = (bnd (pureV h (mBin .neq (env.get 1) (u8 0#8))) fun r1 => evC (cx14 call) n14_7 ⟨(Env.put env 8 r1.1), r1.2⟩) := (ev_seqreg 2 (cOps (cL n14_6)) (cR n14_6) (by kernel_rfl)).trans (by
  refine opsK_0 ?_
  refine opsK_t 7 (env.get 1) (by kernel_rfl) (by kernel_rfl) (by kernel_rfl) (by kernel_rfl) ?_
  refine opsK_p 8 (by kernel_rfl) (by kernel_rfl) (by kernel_rfl) (by kernel_rfl) fun r1 => ?_
  exact opsK_e (by kernel_rfl) (by kernel_rfl))
@[simp] theorem n14_15_eq (call : Calling) (env : Env) (h : Heap) : evC (cx14 call) n14_15 ⟨env, h⟩ = (bnd (pureV h (mBin .xor (env.get 5) (env.get 0))) fun r2 => some (.nrm, ⟨(Env.put env 5 r2.1), r2.2⟩)) := (ev_reg 5 (cOps n14_15) (by kernel_rfl)).trans (by
  refine opsK_0 ?_
  refine opsK_t 14 (env.get 5) (by kernel_rfl) (by kernel_rfl) (by kernel_rfl) (by kernel_rfl) ?_
  refine opsK_t 15 (env.get 0) (by kernel_rfl) (by kernel_rfl) (by kernel_rfl) (by kernel_rfl) ?_
  refine opsK_p 16 (by kernel_rfl) (by kernel_rfl) (by kernel_rfl) (by kernel_rfl) fun r2 => ?_
  refine opsK_t 5 r2.1 (by kernel_rfl) (by kernel_rfl) (by kernel_rfl) (by kernel_rfl) ?_
  exact opsK_e (by kernel_rfl) (by kernel_rfl))
@[simp] theorem n14_16_eq (call : Calling) (s : St) : evC (cx14 call) n14_16 s = some (.nrm, s) := ev_skip (by kernel_rfl)
@[simp] theorem n14_14_eq (call : Calling) (s : St) : evC (cx14 call) n14_14 s = cnd (s.env.get 13) (evC (cx14 call) n14_15 s) (evC (cx14 call) n14_16 s) := ev_cond 13 _ _ (by kernel_rfl)
@[simp] theorem n14_13_eq (call : Calling) (env : Env) (h : Heap) : evC (cx14 call) n14_13 ⟨env, h⟩ = (bnd (pureV h (mBin .and (env.get 1) (u8 1#8))) fun r1 => bnd (pureV r1.2 (mBin .eql r1.1 (u8 1#8))) fun r2 => evC (cx14 call) n14_14 ⟨(Env.put env 13 r2.1), r2.2⟩) := (ev_seqreg 4 (cOps (cL n14_13)) (cR n14_13) (by kernel_rfl)).trans (by
  refine opsK_0 ?_
  refine opsK_t 11 (env.get 1) (by kernel_rfl) (by kernel_rfl) (by kernel_rfl) (by kernel_rfl) ?_
  refine opsK_p 12 (by kernel_rfl) (by kernel_rfl) (by kernel_rfl) (by kernel_rfl) fun r1 => ?_
  refine opsK_p 13 (by kernel_rfl) (by kernel_rfl) (by kernel_rfl) (by kernel_rfl) fun r2 => ?_
  exact opsK_e (by kernel_rfl) (by kernel_rfl))
@[simp] theorem n14_18_eq (call : Calling) (env : Env) (h : Heap) : evC (cx14 call) n14_18 ⟨env, h⟩ = (bnd (pureV h (mBin .shl (env.get 0) (u64 1#64))) fun r1 => bnd (pureV r1.2 (mBin .mul (env.get 6) (u8 27#8))) fun r3 => bnd (pureV r3.2 (mBin .xor r1.1 r3.1)) fun r4 => some (.nrm, ⟨(Env.put env 0 r4.1), r4.2⟩)) := (ev_reg 7 (cOps n14_18) (by kernel_rfl)).trans (by
  refine opsK_0 ?_
  refine opsK_t 19 (env.get 0) (by kernel_rfl) (by kernel_rfl) (by kernel_rfl) (by kernel_rfl) ?_
  refine opsK_p 20 (by kernel_rfl) (by kernel_rfl) (by kernel_rfl) (by kernel_rfl) fun r1 => ?_
  refine opsK_t 21 (env.get 6) (by kernel_rfl) (by kernel_rfl) (by kernel_rfl) (by kernel_rfl) ?_
  refine opsK_p 22 (by kernel_rfl) (by kernel_rfl) (by kernel_rfl) (by kernel_rfl) fun r3 => ?_
  refine opsK_p 23 (by kernel_rfl) (by kernel_rfl) (by kernel_rfl) (by kernel_rfl) fun r4 => ?_
  refine opsK_t 0 r4.1 (by kernel_rfl) (by kernel_rfl) (by kernel_rfl) (by kernel_rfl) ?_
  exact opsK_e (by kernel_rfl) (by kernel_rfl))
@[simp] theorem n14_17_eq (call : Calling) (env : Env) (h : Heap) : evC (cx14 call) n14_17 ⟨env, h⟩ = (bnd (pureV h (mBin .shr (env.get 0) (u64 7#64))) fun r1 => evC (cx14 call) n14_18 ⟨(Env.put env 6 r1.1), r1.2⟩) := (ev_seqreg 6 (cOps (cL n14_17)) (cR n14_17) (by kernel_rfl)).trans (by
  refine opsK_0 ?_
  refine opsK_t 17 (env.get 0) (by kernel_rfl) (by kernel_rfl) (by kernel_rfl) (by kernel_rfl) ?_
  refine opsK_p 18 (by kernel_rfl) (by kernel_rfl) (by kernel_rfl) (by kernel_rfl) fun r1 => ?_
  refine opsK_t 6 r1.1 (by kernel_rfl) (by kernel_rfl) (by kernel_rfl) (by kernel_rfl) ?_
  exact opsK_e (by kernel_rfl) (by kernel_rfl))
@[simp] theorem n14_12_eq (call : Calling) (s : St) : evC (cx14 call) n14_12 s = bnd (evC (cx14 call) n14_13 s) (sqK (evC (cx14 call) n14_17)) := ev_seq _ _ (by kernel_rfl)
@[simp] theorem n14_11_eq (call : Calling) (s : St) : evC (cx14 call) n14_11 s = bnd (evC (cx14 call) n14_12 s) fun r => some (inBlk 1 r) := ev_block 1 _ (by kernel_rfl)
@[simp] theorem n14_19_eq (call : Calling) (env : Env) (h : Heap) : evC (cx14 call) n14_19 ⟨env, h⟩ = (bnd (pureV h (mBin .shr (env.get 1) (u64 1#64))) fun r1 => some (.nrm, ⟨(Env.put env 1 r1.1), r1.2⟩)) := (ev_reg 3 (cOps n14_19) (by kernel_rfl)).trans (by
  refine opsK_0 ?_
  refine opsK_t 9 (env.get 1) (by kernel_rfl) (by kernel_rfl) (by kernel_rfl) (by kernel_rfl) ?_
  refine opsK_p 10 (by kernel_rfl) (by kernel_rfl) (by kernel_rfl) (by kernel_rfl) fun r1 => ?_
  refine opsK_t 1 r1.1 (by kernel_rfl) (by kernel_rfl) (by kernel_rfl) (by kernel_rfl) ?_
  exact opsK_e (by kernel_rfl) (by kernel_rfl))
@[simp] theorem n14_10_eq (call : Calling) (s : St) : evC (cx14 call) n14_10 s = bnd (evC (cx14 call) n14_11 s) (sqK (evC (cx14 call) n14_19)) := ev_seq _ _ (by kernel_rfl)
@[simp] theorem n14_5_eq (call : Calling) (s : St) : evC (cx14 call) n14_5 s = bnd (evC (cx14 call) n14_6 s) (sqK (evC (cx14 call) n14_10)) := ev_seq _ _ (by kernel_rfl)
@[simp] theorem n14_4_eq (call : Calling) (s : St) : evC (cx14 call) n14_4 s = evLoop (evC (cx14 call) n14_5) s := ev_loop _ (by kernel_rfl)
@[simp] theorem n14_3_eq (call : Calling) (s : St) : evC (cx14 call) n14_3 s = bnd (evC (cx14 call) n14_4 s) fun r => some (inBlk 0 r) := ev_block 0 _ (by kernel_rfl)
@[simp] theorem n14_21_eq (call : Calling) (s : St) : evC (cx14 call) n14_21 s = some (.ret, s) := ev_ret (by kernel_rfl)
@[simp] theorem n14_20_eq (call : Calling) (env : Env) (h : Heap) : evC (cx14 call) n14_20 ⟨env, h⟩ = ( evC (cx14 call) n14_21 ⟨(Env.put env 4 (env.get 5)), h⟩) := (ev_seqreg 8 (cOps (cL n14_20)) (cR n14_20) (by kernel_rfl)).trans (by
  refine opsK_0 ?_
  refine opsK_t 24 (env.get 5) (by kernel_rfl) (by kernel_rfl) (by kernel_rfl) (by kernel_rfl) ?_
  refine opsK_t 4 (env.get 5) (by kernel_rfl) (by kernel_rfl) (by kernel_rfl) (by kernel_rfl) ?_
  exact opsK_e (by kernel_rfl) (by kernel_rfl))
@[simp] theorem n14_2_eq (call : Calling) (s : St) : evC (cx14 call) n14_2 s = bnd (evC (cx14 call) n14_3 s) (sqK (evC (cx14 call) n14_20)) := ev_seq _ _ (by kernel_rfl)
@[simp] theorem n14_1_eq (call : Calling) (env : Env) (h : Heap) : evC (cx14 call) n14_1 ⟨env, h⟩ = ( evC (cx14 call) n14_2 ⟨(Env.put env 5 (u8 0#8)), h⟩) := (ev_seqreg 1 (cOps (cL n14_1)) (cR n14_1) (by kernel_rfl)).trans (by
  refine opsK_0 ?_
  refine opsK_t 5 (u8 0#8) (by kernel_rfl) (by kernel_rfl) (by kernel_rfl) (by kernel_rfl) ?_
  exact opsK_e (by kernel_rfl) (by kernel_rfl))
@[simp] theorem n14_0_eq (call : Calling) (env : Env) (h : Heap) : evC (cx14 call) n14_0 ⟨env, h⟩ = ( evC (cx14 call) n14_1 ⟨(Env.put env 4 (u8 0#8)), h⟩) := (ev_seqreg 0 (cOps (cL n14_0)) (cR n14_0) (by kernel_rfl)).trans (by
  refine opsK_0 ?_
  refine opsK_t 4 (u8 0#8) (by kernel_rfl) (by kernel_rfl) (by kernel_rfl) (by kernel_rfl) ?_
  exact opsK_e (by kernel_rfl) (by kernel_rfl))
theorem b14 (call : Calling) (a0 a1 : AV) (h : Heap) : evBody (cx14 call) Try.f14 n14_0 [a0, a1] h = bnd (evC (cx14 call) n14_0 ⟨[(0, a0), (1, a1), (2, .junk), (3, .junk), (4, .junk), (5, .junk), (6, .junk), (8, .junk), (13, .junk)], h⟩) (retK fun s => bnd (bnd (some (s.env.get 4)) fun v => bnd (some []) fun vs => some (v :: vs)) fun vs => some (oneOrTuple vs)) := by kernel_rfl
theorem fn14 : Try.prog.funcs[14]? = some Try.f14 := by kernel_rfl
theorem k14 : Callable Try.prog 14 := ⟨Try.f14, fn14, by kernel_rfl, by kernel_rfl⟩
theorem s14 {call : Calling} (hc : CallOK Try.prog call) {args : List AV} {h h' : Heap} {v : AV} (he : evBody (cx14 call) Try.f14 n14_0 args h = some (v, h')) : Spec Try.prog 14 args h v h' := body_sound (C := cx14 call) TT_ok hc mixed_ok fn14 (by kernel_rfl) (by kernel_rfl) he
end Go.Vab

/-
  The product of two elements.
-/
namespace Go.Vab
open Go Go.Proofs

theorem walk14 (call : Calling) (a b : BitVec 8) (h : Heap) : evBody (cx14 call) Try.f14 n14_0 [u8 a, u8 b] h = some (u8 (mulB a b), h) := by
  rw [b14]
  have L : ∀ x6 x8 x13, ∃ r, evLoop (evC (cx14 call) n14_5) ⟨[(0, u8 a), (1, u8 b), (2, .junk), (3, .junk), (4, u8 0#8), (5, u8 0#8), (6, x6), (8, x8), (13, x13)], h⟩ = some r ∧ 
      ∃ y0 y1 y6 y8 y13, r = (.exit 0, ⟨[(0, y0), (1, y1), (2, .junk), (3, .junk), (4, u8 0#8), (5, u8 (mulB a b)), (6, y6), (8, y8), (13, y13)], h⟩) := by
    intro x6 x8 x13
    refine evLoop_rule (fun n s => ∃ a' b' c' x6 x8 x13, s = ⟨[(0, u8 a'), (1, u8 b'), (2, .junk), (3, .junk), (4, u8 0#8), (5, u8 c'), (6, x6), (8, x8), (13, x13)], h⟩ ∧ b'.toNat < 2 ^ n ∧ mulL n a' b' c' = mulB a b) ?_ 8 _ ⟨a, b, 0#8, _, _, _, rfl, b.isLt, rfl⟩
    rintro n s ⟨a', b', c', x6, x8, x13, rfl, hb, hm⟩
    by_cases h0 : b' = 0#8
    · subst h0
      rw [mulL_zero] at hm
      subst hm
      simp [Env.get, Env.put]
    · obtain ⟨m, rfl⟩ : ∃ m, n = m + 1 := by
        cases n with
        | zero => exact absurd (BitVec.eq_of_toNat_eq (by simpa using hb)) h0
        | succ m => exact ⟨m, rfl⟩
      have hb' : (b' >>> 1).toNat < 2 ^ m := by
        rw [BitVec.toNat_ushiftRight, Nat.shiftRight_eq_div_pow]
        rw [Nat.pow_succ] at hb
        omega
      simp only [mulL] at hm
      by_cases h1 : b' &&& 1#8 = 1#8
      · rw [if_pos h1] at hm
        refine ex_of (by conv => lhs; simp [Env.get, Env.put, h0, h1]) ?_
        exact .inl ⟨rfl, m, by omega, _, _, _, _, _, _, rfl, hb', hm⟩
      · rw [if_neg h1] at hm
        refine ex_of (by conv => lhs; simp [Env.get, Env.put, h0, h1]) ?_
        exact .inl ⟨rfl, m, by omega, _, _, _, _, _, _, rfl, hb', hm⟩
  obtain ⟨r, hr, y0, y1, y6, y8, y13, rfl⟩ := L .junk .junk .junk
  simp [Env.get, Env.put, hr, oneOrTuple]

end Go.Vab

/- How the evaluator reads the functions of a seat. Printed by wip/tools/gen.py (own work). -/
namespace Go.Vab
open Go Go.Proofs
/-! math/bits.RotateLeft8 -/
noncomputable def cx38 (call : Calling) : Ctx := ⟨call, TT, 17, [6, 7, 8, 9, 10, 11, 12, 13, 14, 15, 16]⟩
noncomputable def n38_0 : Code := bodyOf Try.f38
noncomputable def n38_1 : Code := cR n38_0
noncomputable def n38_2 : Code := cR n38_1
noncomputable def n38_3 : Code := cR n38_2
@[simp] theorem n38_3_eq (call : Calling) (s : St) : evC (cx38 call) n38_3 s = some (.ret, s) := ev_ret (by kernel_rfl)
@[simp] theorem n38_2_eq (call : Calling) (env : Env) (h : Heap) : evC (cx38 call) n38_2 ⟨env, h⟩ = (bnd (pureV h (mBin .shl (env.get 0) (env.get 5))) fun r2 => bnd (pureV r2.2 (mBin .sub (u64 8#64) (env.get 5))) fun r5 => bnd (pureV r5.2 (mBin .shr (env.get 0) r5.1)) fun r6 => bnd (pureV r6.2 (mBin .or r2.1 r6.1)) fun r7 => evC (cx38 call) n38_3 ⟨(Env.put env 4 r7.1), r7.2⟩) := (ev_seqreg 2 (cOps (cL n38_2)) (cR n38_2) (by kernel_rfl)).trans (by
  refine opsK_0 ?_
  refine opsK_t 9 (env.get 0) (by kernel_rfl) (by kernel_rfl) (by kernel_rfl) (by kernel_rfl) ?_
  refine opsK_t 10 (env.get 5) (by kernel_rfl) (by kernel_rfl) (by kernel_rfl) (by kernel_rfl) ?_
  refine opsK_p 11 (by kernel_rfl) (by kernel_rfl) (by kernel_rfl) (by kernel_rfl) fun r2 => ?_
  refine opsK_t 12 (env.get 0) (by kernel_rfl) (by kernel_rfl) (by kernel_rfl) (by kernel_rfl) ?_
  refine opsK_t 13 (env.get 5) (by kernel_rfl) (by kernel_rfl) (by kernel_rfl) (by kernel_rfl) ?_
  refine opsK_p 14 (by kernel_rfl) (by kernel_rfl) (by kernel_rfl) (by kernel_rfl) fun r5 => ?_
  refine opsK_p 15 (by kernel_rfl) (by kernel_rfl) (by kernel_rfl) (by kernel_rfl) fun r6 => ?_
  refine opsK_p 16 (by kernel_rfl) (by kernel_rfl) (by kernel_rfl) (by kernel_rfl) fun r7 => ?_
  refine opsK_t 4 r7.1 (by kernel_rfl) (by kernel_rfl) (by kernel_rfl) (by kernel_rfl) ?_
  exact opsK_e (by kernel_rfl) (by kernel_rfl))
@[simp] theorem n38_1_eq (call : Calling) (env : Env) (h : Heap) : evC (cx38 call) n38_1 ⟨env, h⟩ = (bnd (pureV h (mConv .u64 (env.get 1))) fun r1 => bnd (pureV r1.2 (mBin .and r1.1 (u64 7#64))) fun r2 => evC (cx38 call) n38_2 ⟨(Env.put env 5 r2.1), r2.2⟩) := (ev_seqreg 1 (cOps (cL n38_1)) (cR n38_1) (by kernel_rfl)).trans (by
  refine opsK_0 ?_
  refine opsK_t 6 (env.get 1) (by kernel_rfl) (by kernel_rfl) (by kernel_rfl) (by kernel_rfl) ?_
  refine opsK_p 7 (by kernel_rfl) (by kernel_rfl) (by kernel_rfl) (by kernel_rfl) fun r1 => ?_
  refine opsK_p 8 (by kernel_rfl) (by kernel_rfl) (by kernel_rfl) (by kernel_rfl) fun r2 => ?_
  refine opsK_t 5 r2.1 (by kernel_rfl) (by kernel_rfl) (by kernel_rfl) (by kernel_rfl) ?_
  exact opsK_e (by kernel_rfl) (by kernel_rfl))
@[simp] theorem n38_0_eq (call : Calling) (env : Env) (h : Heap) : evC (cx38 call) n38_0 ⟨env, h⟩ = ( evC (cx38 call) n38_1 ⟨(Env.put env 4 (u8 0#8)), h⟩) := (ev_seqreg 0 (cOps (cL n38_0)) (cR n38_0) (by kernel_rfl)).trans (by
  refine opsK_0 ?_
  refine opsK_t 4 (u8 0#8) (by kernel_rfl) (by kernel_rfl) (by kernel_rfl) (by kernel_rfl) ?_
  exact opsK_e (by kernel_rfl) (by kernel_rfl))
theorem b38 (call : Calling) (a0 a1 : AV) (h : Heap) : evBody (cx38 call) Try.f38 n38_0 [a0, a1] h = bnd (evC (cx38 call) n38_0 ⟨[(0, a0), (1, a1), (2, .junk), (3, .junk), (4, .junk), (5, .junk)], h⟩) (retK fun s => bnd (bnd (some (s.env.get 4)) fun v => bnd (some []) fun vs => some (v :: vs)) fun vs => some (oneOrTuple vs)) := by kernel_rfl
theorem fn38 : Try.prog.funcs[38]? = some Try.f38 := by kernel_rfl
theorem k38 : Callable Try.prog 38 := ⟨Try.f38, fn38, by kernel_rfl, by kernel_rfl⟩
theorem s38 {call : Calling} (hc : CallOK Try.prog call) {args : List AV} {h h' : Heap} {v : AV} (he : evBody (cx38 call) Try.f38 n38_0 args h = some (v, h')) : Spec Try.prog 38 args h v h' := body_sound (C := cx38 call) TT_ok hc mixed_ok fn38 (by kernel_rfl) (by kernel_rfl) he
end Go.Vab

/- How the evaluator reads the functions of a seat. Printed by wip/tools/gen.py (own work). -/
namespace Go.Vab
open Go Go.Proofs
/-! vestry/aes.Sub -/
noncomputable def cx16 (call : Calling) : Ctx := ⟨call, TT, 34, [6, 7, 9, 10, 11, 12, 14, 15, 16, 17, 18, 19, 20, 21, 22, 23, 24, 25, 26, 27, 28, 29, 30, 31, 32, 33]⟩
noncomputable def n16_0 : Code := bodyOf Try.f16
noncomputable def n16_1 : Code := cR n16_0
noncomputable def n16_2 : Code := cR n16_1
noncomputable def n16_3 : Code := cL n16_2
noncomputable def n16_4 : Code := cR n16_3
noncomputable def n16_5 : Code := cB n16_4
noncomputable def n16_6 : Code := cB n16_5
noncomputable def n16_7 : Code := cL n16_6
noncomputable def n16_8 : Code := cR n16_7
noncomputable def n16_9 : Code := cL n16_8
noncomputable def n16_10 : Code := cR n16_8
noncomputable def n16_11 : Code := cR n16_6
noncomputable def n16_12 : Code := cL n16_11
noncomputable def n16_13 : Code := cB n16_12
noncomputable def n16_14 : Code := cL n16_13
noncomputable def n16_15 : Code := cR n16_14
noncomputable def n16_16 : Code := cL n16_15
noncomputable def n16_17 : Code := cR n16_15
noncomputable def n16_18 : Code := cR n16_13
noncomputable def n16_19 : Code := cR n16_11
noncomputable def n16_20 : Code := cR n16_2
noncomputable def n16_21 : Code := cR n16_20
@[simp] theorem n16_9_eq (call : Calling) (s : St) : evC (cx16 call) n16_9 s = some (.nrm, s) := ev_skip (by kernel_rfl)
@[simp] theorem n16_10_eq (call : Calling) (s : St) : evC (cx16 call) n16_10 s = some (.exit 0, s) := ev_exit 0 (by kernel_rfl)
@[simp] theorem n16_8_eq (call : Calling) (s : St) : evC (cx16 call) n16_8 s = cnd (s.env.get 8) (evC (cx16 call) n16_9 s) (evC (cx16 call) n16_10 s) := ev_cond 8 _ _ (by kernel_rfl)
@[simp] theorem n16_7_eq (call : Calling) (env : Env) (h : Heap) : evC (cx16 call) n16_7 ⟨env, h⟩ = (bnd (pureV h (mBin .gtr (env.get 5) (nat 0))) fun r1 => evC (cx16 call) n16_8 ⟨(Env.put env 8 r1.1), r1.2⟩) := (ev_seqreg 3 (cOps (cL n16_7)) (cR n16_7) (by kernel_rfl)).trans (by
  refine opsK_0 ?_
  refine opsK_t 7 (env.get 5) (by kernel_rfl) (by kernel_rfl) (by kernel_rfl) (by kernel_rfl) ?_
  refine opsK_p 8 (by kernel_rfl) (by kernel_rfl) (by kernel_rfl) (by kernel_rfl) fun r1 => ?_
  exact opsK_e (by kernel_rfl) (by kernel_rfl))
@[simp] theorem n16_16_eq (call : Calling) (env : Env) (h : Heap) : evC (cx16 call) n16_16 ⟨env, h⟩ = (bnd (call 14 [(env.get 3), (env.get 4)] h) fun r2 => some (.nrm, ⟨(Env.put env 3 r2.1), r2.2⟩)) := (ev_reg 6 (cOps n16_16) (by kernel_rfl)).trans (by
  refine opsK_0 ?_
  refine opsK_t 14 (env.get 3) (by kernel_rfl) (by kernel_rfl) (by kernel_rfl) (by kernel_rfl) ?_
  refine opsK_t 15 (env.get 4) (by kernel_rfl) (by kernel_rfl) (by kernel_rfl) (by kernel_rfl) ?_
  refine opsK_p 16 (by kernel_rfl) (by kernel_rfl) (by kernel_rfl) (by kernel_rfl) fun r2 => ?_
  refine opsK_t 3 r2.1 (by kernel_rfl) (by kernel_rfl) (by kernel_rfl) (by kernel_rfl) ?_
  exact opsK_e (by kernel_rfl) (by kernel_rfl))
@[simp] theorem n16_17_eq (call : Calling) (s : St) : evC (cx16 call) n16_17 s = some (.nrm, s) := ev_skip (by kernel_rfl)
@[simp] theorem n16_15_eq (call : Calling) (s : St) : evC (cx16 call) n16_15 s = cnd (s.env.get 13) (evC (cx16 call) n16_16 s) (evC (cx16 call) n16_17 s) := ev_cond 13 _ _ (by kernel_rfl)
@[simp] theorem n16_14_eq (call : Calling) (env : Env) (h : Heap) : evC (cx16 call) n16_14 ⟨env, h⟩ = (bnd (pureV h (mBin .and (env.get 5) (nat 1))) fun r1 => bnd (pureV r1.2 (mBin .eql r1.1 (nat 1))) fun r2 => evC (cx16 call) n16_15 ⟨(Env.put env 13 r2.1), r2.2⟩) := (ev_seqreg 5 (cOps (cL n16_14)) (cR n16_14) (by kernel_rfl)).trans (by
  refine opsK_0 ?_
  refine opsK_t 11 (env.get 5) (by kernel_rfl) (by kernel_rfl) (by kernel_rfl) (by kernel_rfl) ?_
  refine opsK_p 12 (by kernel_rfl) (by kernel_rfl) (by kernel_rfl) (by kernel_rfl) fun r1 => ?_
  refine opsK_p 13 (by kernel_rfl) (by kernel_rfl) (by kernel_rfl) (by kernel_rfl) fun r2 => ?_
  exact opsK_e (by kernel_rfl) (by kernel_rfl))
@[simp] theorem n16_18_eq (call : Calling) (env : Env) (h : Heap) : evC (cx16 call) n16_18 ⟨env, h⟩ = (bnd (call 14 [(env.get 4), (env.get 4)] h) fun r2 => some (.nrm, ⟨(Env.put env 4 r2.1), r2.2⟩)) := (ev_reg 7 (cOps n16_18) (by kernel_rfl)).trans (by
  refine opsK_0 ?_
  refine opsK_t 17 (env.get 4) (by kernel_rfl) (by kernel_rfl) (by kernel_rfl) (by kernel_rfl) ?_
  refine opsK_t 18 (env.get 4) (by kernel_rfl) (by kernel_rfl) (by kernel_rfl) (by kernel_rfl) ?_
  refine opsK_p 19 (by kernel_rfl) (by kernel_rfl) (by kernel_rfl) (by kernel_rfl) fun r2 => ?_
  refine opsK_t 4 r2.1 (by kernel_rfl) (by kernel_rfl) (by kernel_rfl) (by kernel_rfl) ?_
  exact opsK_e (by kernel_rfl) (by kernel_rfl))
@[simp] theorem n16_13_eq (call : Calling) (s : St) : evC (cx16 call) n16_13 s = bnd (evC (cx16 call) n16_14 s) (sqK (evC (cx16 call) n16_18)) := ev_seq _ _ (by kernel_rfl)
@[simp] theorem n16_12_eq (call : Calling) (s : St) : evC (cx16 call) n16_12 s = bnd (evC (cx16 call) n16_13 s) fun r => some (inBlk 1 r) := ev_block 1 _ (by kernel_rfl)
@[simp] theorem n16_19_eq (call : Calling) (env : Env) (h : Heap) : evC (cx16 call) n16_19 ⟨env, h⟩ = (bnd (pureV h (mBin .shr (env.get 5) (u64 1#64))) fun r1 => some (.nrm, ⟨(Env.put env 5 r1.1), r1.2⟩)) := (ev_reg 4 (cOps n16_19) (by kernel_rfl)).trans (by
  refine opsK_0 ?_
  refine opsK_t 9 (env.get 5) (by kernel_rfl) (by kernel_rfl) (by kernel_rfl) (by kernel_rfl) ?_
  refine opsK_p 10 (by kernel_rfl) (by kernel_rfl) (by kernel_rfl) (by kernel_rfl) fun r1 => ?_
  refine opsK_t 5 r1.1 (by kernel_rfl) (by kernel_rfl) (by kernel_rfl) (by kernel_rfl) ?_
  exact opsK_e (by kernel_rfl) (by kernel_rfl))
@[simp] theorem n16_11_eq (call : Calling) (s : St) : evC (cx16 call) n16_11 s = bnd (evC (cx16 call) n16_12 s) (sqK (evC (cx16 call) n16_19)) := ev_seq _ _ (by kernel_rfl)
@[simp] theorem n16_6_eq (call : Calling) (s : St) : evC (cx16 call) n16_6 s = bnd (evC (cx16 call) n16_7 s) (sqK (evC (cx16 call) n16_11)) := ev_seq _ _ (by kernel_rfl)
@[simp] theorem n16_5_eq (call : Calling) (s : St) : evC (cx16 call) n16_5 s = evLoop (evC (cx16 call) n16_6) s := ev_loop _ (by kernel_rfl)
@[simp] theorem n16_4_eq (call : Calling) (s : St) : evC (cx16 call) n16_4 s = bnd (evC (cx16 call) n16_5 s) fun r => some (inBlk 0 r) := ev_block 0 _ (by kernel_rfl)
@[simp] theorem n16_3_eq (call : Calling) (env : Env) (h : Heap) : evC (cx16 call) n16_3 ⟨env, h⟩ = ( evC (cx16 call) n16_4 ⟨(Env.put env 5 (nat 254)), h⟩) := (ev_seqreg 2 (cOps (cL n16_3)) (cR n16_3) (by kernel_rfl)).trans (by
  refine opsK_0 ?_
  refine opsK_t 5 (nat 254) (by kernel_rfl) (by kernel_rfl) (by kernel_rfl) (by kernel_rfl) ?_
  exact opsK_e (by kernel_rfl) (by kernel_rfl))
@[simp] theorem n16_21_eq (call : Calling) (s : St) : evC (cx16 call) n16_21 s = some (.ret, s) := ev_ret (by kernel_rfl)
@[simp] theorem n16_20_eq (call : Calling) (env : Env) (h : Heap) : evC (cx16 call) n16_20 ⟨env, h⟩ = (bnd (call 38 [(env.get 3), (nat 1)] h) fun r2 => bnd (pureV r2.2 (mBin .xor (env.get 3) r2.1)) fun r3 => bnd (call 38 [(env.get 3), (nat 2)] r3.2) fun r5 => bnd (pureV r5.2 (mBin .xor r3.1 r5.1)) fun r6 => bnd (call 38 [(env.get 3), (nat 3)] r6.2) fun r8 => bnd (pureV r8.2 (mBin .xor r6.1 r8.1)) fun r9 => bnd (call 38 [(env.get 3), (nat 4)] r9.2) fun r11 => bnd (pureV r11.2 (mBin .xor r9.1 r11.1)) fun r12 => bnd (pureV r12.2 (mBin .xor r12.1 (u8 99#8))) fun r13 => evC (cx16 call) n16_21 ⟨(Env.put env 2 r13.1), r13.2⟩) := (ev_seqreg 8 (cOps (cL n16_20)) (cR n16_20) (by kernel_rfl)).trans (by
  refine opsK_0 ?_
  refine opsK_t 20 (env.get 3) (by kernel_rfl) (by kernel_rfl) (by kernel_rfl) (by kernel_rfl) ?_
  refine opsK_t 21 (env.get 3) (by kernel_rfl) (by kernel_rfl) (by kernel_rfl) (by kernel_rfl) ?_
  refine opsK_p 22 (by kernel_rfl) (by kernel_rfl) (by kernel_rfl) (by kernel_rfl) fun r2 => ?_
  refine opsK_p 23 (by kernel_rfl) (by kernel_rfl) (by kernel_rfl) (by kernel_rfl) fun r3 => ?_
  refine opsK_t 24 (env.get 3) (by kernel_rfl) (by kernel_rfl) (by kernel_rfl) (by kernel_rfl) ?_
  refine opsK_p 25 (by kernel_rfl) (by kernel_rfl) (by kernel_rfl) (by kernel_rfl) fun r5 => ?_
  refine opsK_p 26 (by kernel_rfl) (by kernel_rfl) (by kernel_rfl) (by kernel_rfl) fun r6 => ?_
  refine opsK_t 27 (env.get 3) (by kernel_rfl) (by kernel_rfl) (by kernel_rfl) (by kernel_rfl) ?_
  refine opsK_p 28 (by kernel_rfl) (by kernel_rfl) (by kernel_rfl) (by kernel_rfl) fun r8 => ?_
  refine opsK_p 29 (by kernel_rfl) (by kernel_rfl) (by kernel_rfl) (by kernel_rfl) fun r9 => ?_
  refine opsK_t 30 (env.get 3) (by kernel_rfl) (by kernel_rfl) (by kernel_rfl) (by kernel_rfl) ?_
  refine opsK_p 31 (by kernel_rfl) (by kernel_rfl) (by kernel_rfl) (by kernel_rfl) fun r11 => ?_
  refine opsK_p 32 (by kernel_rfl) (by kernel_rfl) (by kernel_rfl) (by kernel_rfl) fun r12 => ?_
  refine opsK_p 33 (by kernel_rfl) (by kernel_rfl) (by kernel_rfl) (by kernel_rfl) fun r13 => ?_
  refine opsK_t 2 r13.1 (by kernel_rfl) (by kernel_rfl) (by kernel_rfl) (by kernel_rfl) ?_
  exact opsK_e (by kernel_rfl) (by kernel_rfl))
@[simp] theorem n16_2_eq (call : Calling) (s : St) : evC (cx16 call) n16_2 s = bnd (evC (cx16 call) n16_3 s) (sqK (evC (cx16 call) n16_20)) := ev_seq _ _ (by kernel_rfl)
@[simp] theorem n16_1_eq (call : Calling) (env : Env) (h : Heap) : evC (cx16 call) n16_1 ⟨env, h⟩ = ( evC (cx16 call) n16_2 ⟨(Env.put (Env.put env 3 (u8 1#8)) 4 (env.get 0)), h⟩) := (ev_seqreg 1 (cOps (cL n16_1)) (cR n16_1) (by kernel_rfl)).trans (by
  refine opsK_0 ?_
  refine opsK_t 6 (env.get 0) (by kernel_rfl) (by kernel_rfl) (by kernel_rfl) (by kernel_rfl) ?_
  refine opsK_t 3 (u8 1#8) (by kernel_rfl) (by kernel_rfl) (by kernel_rfl) (by kernel_rfl) ?_
  refine opsK_t 4 (env.get 0) (by kernel_rfl) (by kernel_rfl) (by kernel_rfl) (by kernel_rfl) ?_
  exact opsK_e (by kernel_rfl) (by kernel_rfl))
@[simp] theorem n16_0_eq (call : Calling) (env : Env) (h : Heap) : evC (cx16 call) n16_0 ⟨env, h⟩ = ( evC (cx16 call) n16_1 ⟨(Env.put env 2 (u8 0#8)), h⟩) := (ev_seqreg 0 (cOps (cL n16_0)) (cR n16_0) (by kernel_rfl)).trans (by
  refine opsK_0 ?_
  refine opsK_t 2 (u8 0#8) (by kernel_rfl) (by kernel_rfl) (by kernel_rfl) (by kernel_rfl) ?_
  exact opsK_e (by kernel_rfl) (by kernel_rfl))
theorem b16 (call : Calling) (a0 : AV) (h : Heap) : evBody (cx16 call) Try.f16 n16_0 [a0] h = bnd (evC (cx16 call) n16_0 ⟨[(0, a0), (1, .junk), (2, .junk), (3, .junk), (4, .junk), (5, .junk), (8, .junk), (13, .junk)], h⟩) (retK fun s => bnd (bnd (some (s.env.get 2)) fun v => bnd (some []) fun vs => some (v :: vs)) fun vs => some (oneOrTuple vs)) := by kernel_rfl
theorem fn16 : Try.prog.funcs[16]? = some Try.f16 := by kernel_rfl
theorem k16 : Callable Try.prog 16 := ⟨Try.f16, fn16, by kernel_rfl, by kernel_rfl⟩
theorem s16 {call : Calling} (hc : CallOK Try.prog call) {args : List AV} {h h' : Heap} {v : AV} (he : evBody (cx16 call) Try.f16 n16_0 args h = some (v, h')) : Spec Try.prog 16 args h v h' := body_sound (C := cx16 call) TT_ok hc mixed_ok fn16 (by kernel_rfl) (by kernel_rfl) he
end Go.Vab

/- How the evaluator reads the functions of a seat. Printed by wip/tools/gen.py (own work). -/
namespace Go.Vab
open Go Go.Proofs
/-! vestry/aes.table -/
noncomputable def cx40 (call : Calling) : Ctx := ⟨call, TT, 12, [4, 5, 6, 7, 8, 9, 10, 11]⟩
noncomputable def n40_0 : Code := bodyOf Try.f40
noncomputable def n40_1 : Code := cR n40_0
noncomputable def n40_2 : Code := cL n40_1
noncomputable def n40_3 : Code := cR n40_2
noncomputable def n40_4 : Code := cB n40_3
noncomputable def n40_5 : Code := cB n40_4
noncomputable def n40_6 : Code := cR n40_5
noncomputable def n40_7 : Code := cL n40_6
noncomputable def n40_8 : Code := cL n40_7
noncomputable def n40_9 : Code := cR n40_7
noncomputable def n40_10 : Code := cR n40_6
noncomputable def n40_11 : Code := cL n40_10
noncomputable def n40_12 : Code := cB n40_11
noncomputable def n40_13 : Code := cR n40_12
noncomputable def n40_14 : Code := cR n40_10
noncomputable def n40_15 : Code := cR n40_1
noncomputable def n40_16 : Code := cR n40_15
@[simp] theorem n40_8_eq (call : Calling) (s : St) : evC (cx40 call) n40_8 s = some (.nrm, s) := ev_skip (by kernel_rfl)
@[simp] theorem n40_9_eq (call : Calling) (s : St) : evC (cx40 call) n40_9 s = some (.exit 0, s) := ev_exit 0 (by kernel_rfl)
@[simp] theorem n40_7_eq (call : Calling) (s : St) : evC (cx40 call) n40_7 s = cnd (s.env.get 3) (evC (cx40 call) n40_8 s) (evC (cx40 call) n40_9 s) := ev_cond 3 _ _ (by kernel_rfl)
@[simp] theorem n40_13_eq (call : Calling) (env : Env) (h : Heap) : evC (cx40 call) n40_13 ⟨env, h⟩ = (bnd (pureV h (mConv .u8 (env.get 1))) fun r2 => bnd (call 16 [r2.1] r2.2) fun r3 => bnd (pureV r3.2 (mIdxA (.arr 256 (.int .u8)) (env.get 0) (env.get 1))) fun r4 => bnd (stU (.int .u8) r4.1 r3.1 r4.2) fun r5 => some (.nrm, ⟨env, r5.2⟩)) := (ev_reg 4 (cOps n40_13) (by kernel_rfl)).trans (by
  refine opsK_0 ?_
  refine opsK_t 5 (env.get 1) (by kernel_rfl) (by kernel_rfl) (by kernel_rfl) (by kernel_rfl) ?_
  refine opsK_t 6 (env.get 1) (by kernel_rfl) (by kernel_rfl) (by kernel_rfl) (by kernel_rfl) ?_
  refine opsK_p 7 (by kernel_rfl) (by kernel_rfl) (by kernel_rfl) (by kernel_rfl) fun r2 => ?_
  refine opsK_p 8 (by kernel_rfl) (by kernel_rfl) (by kernel_rfl) (by kernel_rfl) fun r3 => ?_
  refine opsK_p 9 (by kernel_rfl) (by kernel_rfl) (by kernel_rfl) (by kernel_rfl) fun r4 => ?_
  refine opsK_n (by kernel_rfl) (by kernel_rfl) (by kernel_rfl) fun r5 => ?_
  exact opsK_e (by kernel_rfl) (by kernel_rfl))
@[simp] theorem n40_12_eq (call : Calling) (env : Env) (h : Heap) : evC (cx40 call) n40_12 ⟨env, h⟩ = ( evC (cx40 call) n40_13 ⟨(Env.put env 1 (env.get 2)), h⟩) := (ev_seqreg 3 (cOps (cL n40_12)) (cR n40_12) (by kernel_rfl)).trans (by
  refine opsK_0 ?_
  refine opsK_t 4 (env.get 2) (by kernel_rfl) (by kernel_rfl) (by kernel_rfl) (by kernel_rfl) ?_
  refine opsK_t 1 (env.get 2) (by kernel_rfl) (by kernel_rfl) (by kernel_rfl) (by kernel_rfl) ?_
  exact opsK_e (by kernel_rfl) (by kernel_rfl))
@[simp] theorem n40_11_eq (call : Calling) (s : St) : evC (cx40 call) n40_11 s = bnd (evC (cx40 call) n40_12 s) fun r => some (inBlk 1 r) := ev_block 1 _ (by kernel_rfl)
@[simp] theorem n40_14_eq (call : Calling) (env : Env) (h : Heap) : evC (cx40 call) n40_14 ⟨env, h⟩ = (bnd (pureV h (mBin .add (env.get 2) (nat 1))) fun r0 => some (.nrm, ⟨(Env.put env 2 r0.1), r0.2⟩)) := (ev_reg 5 (cOps n40_14) (by kernel_rfl)).trans (by
  refine opsK_0 ?_
  refine opsK_p 10 (by kernel_rfl) (by kernel_rfl) (by kernel_rfl) (by kernel_rfl) fun r0 => ?_
  refine opsK_t 2 r0.1 (by kernel_rfl) (by kernel_rfl) (by kernel_rfl) (by kernel_rfl) ?_
  exact opsK_e (by kernel_rfl) (by kernel_rfl))
@[simp] theorem n40_10_eq (call : Calling) (s : St) : evC (cx40 call) n40_10 s = bnd (evC (cx40 call) n40_11 s) (sqK (evC (cx40 call) n40_14)) := ev_seq _ _ (by kernel_rfl)
@[simp] theorem n40_6_eq (call : Calling) (s : St) : evC (cx40 call) n40_6 s = bnd (evC (cx40 call) n40_7 s) (sqK (evC (cx40 call) n40_10)) := ev_seq _ _ (by kernel_rfl)
@[simp] theorem n40_5_eq (call : Calling) (env : Env) (h : Heap) : evC (cx40 call) n40_5 ⟨env, h⟩ = (bnd (pureV h (mBin .lss (env.get 2) (nat 256))) fun r0 => evC (cx40 call) n40_6 ⟨(Env.put env 3 r0.1), r0.2⟩) := (ev_seqreg 2 (cOps (cL n40_5)) (cR n40_5) (by kernel_rfl)).trans (by
  refine opsK_0 ?_
  refine opsK_p 3 (by kernel_rfl) (by kernel_rfl) (by kernel_rfl) (by kernel_rfl) fun r0 => ?_
  exact opsK_e (by kernel_rfl) (by kernel_rfl))
@[simp] theorem n40_4_eq (call : Calling) (s : St) : evC (cx40 call) n40_4 s = evLoop (evC (cx40 call) n40_5) s := ev_loop _ (by kernel_rfl)
@[simp] theorem n40_3_eq (call : Calling) (s : St) : evC (cx40 call) n40_3 s = bnd (evC (cx40 call) n40_4 s) fun r => some (inBlk 0 r) := ev_block 0 _ (by kernel_rfl)
@[simp] theorem n40_2_eq (call : Calling) (env : Env) (h : Heap) : evC (cx40 call) n40_2 ⟨env, h⟩ = ( evC (cx40 call) n40_3 ⟨(Env.put env 2 (nat 0)), h⟩) := (ev_seqreg 1 (cOps (cL n40_2)) (cR n40_2) (by kernel_rfl)).trans (by
  refine opsK_0 ?_
  refine opsK_t 2 (nat 0) (by kernel_rfl) (by kernel_rfl) (by kernel_rfl) (by kernel_rfl) ?_
  exact opsK_e (by kernel_rfl) (by kernel_rfl))
@[simp] theorem n40_16_eq (call : Calling) (s : St) : evC (cx40 call) n40_16 s = some (.ret, s) := ev_ret (by kernel_rfl)
@[simp] theorem n40_15_eq (call : Calling) (env : Env) (h : Heap) : evC (cx40 call) n40_15 ⟨env, h⟩ = (bnd (pureV h (mLoad (.arr 256 (.int .u8)) (env.get 0) h)) fun r0 => bnd (stU (.arr 256 (.int .u8)) (env.get 0) r0.1 r0.2) fun r1 => evC (cx40 call) n40_16 ⟨env, r1.2⟩) := (ev_seqreg 6 (cOps (cL n40_15)) (cR n40_15) (by kernel_rfl)).trans (by
  refine opsK_0 ?_
  refine opsK_p 11 (by kernel_rfl) (by kernel_rfl) (by kernel_rfl) (by kernel_rfl) fun r0 => ?_
  refine opsK_n (by kernel_rfl) (by kernel_rfl) (by kernel_rfl) fun r1 => ?_
  exact opsK_e (by kernel_rfl) (by kernel_rfl))
@[simp] theorem n40_1_eq (call : Calling) (s : St) : evC (cx40 call) n40_1 s = bnd (evC (cx40 call) n40_2 s) (sqK (evC (cx40 call) n40_15)) := ev_seq _ _ (by kernel_rfl)
@[simp] theorem n40_0_eq (call : Calling) (env : Env) (h : Heap) : evC (cx40 call) n40_0 ⟨env, h⟩ = (bnd (mNew (.arr 256 (.int .u8)) (arr 256 fun _ => 0#8) h) fun r0 => evC (cx40 call) n40_1 ⟨(Env.put env 0 r0.1), r0.2⟩) := (ev_seqreg 0 (cOps (cL n40_0)) (cR n40_0) (by kernel_rfl)).trans (by
  refine opsK_0 ?_
  refine opsK_p 0 (by kernel_rfl) (by kernel_rfl) (by kernel_rfl) (by kernel_rfl) fun r0 => ?_
  exact opsK_e (by kernel_rfl) (by kernel_rfl))
theorem b40 (call : Calling) (h : Heap) : evBody (cx40 call) Try.f40 n40_0 [] h = bnd (evC (cx40 call) n40_0 ⟨[(0, .junk), (1, .junk), (2, .junk), (3, .junk)], h⟩) (retK fun s => bnd (bnd (mLoad (.arr 256 (.int .u8)) (s.env.get 0) s.heap) fun v => bnd (some []) fun vs => some (v :: vs)) fun vs => some (oneOrTuple vs)) := by kernel_rfl
theorem fn40 : Try.prog.funcs[40]? = some Try.f40 := by kernel_rfl
theorem k40 : Callable Try.prog 40 := ⟨Try.f40, fn40, by kernel_rfl, by kernel_rfl⟩
theorem s40 {call : Calling} (hc : CallOK Try.prog call) {args : List AV} {h h' : Heap} {v : AV} (he : evBody (cx40 call) Try.f40 n40_0 args h = some (v, h')) : Spec Try.prog 40 args h v h' := body_sound (C := cx40 call) TT_ok hc mixed_ok fn40 (by kernel_rfl) (by kernel_rfl) he
end Go.Vab

/-
  The substitute of an element; the table of all.
-/
namespace Go.Vab
open Go Go.Proofs

/-! rotations -/
theorem walk38 (call : Calling) (x : BitVec 8) (n : Nat) (hn : n < 8) (h : Heap) : evBody (cx38 call) Try.f38 n38_0 [u8 x, nat n] h = some (u8 (rotB x n), h) := by
  rw [b38]
  have e1 : (BitVec.ofNat 64 n &&& 7#64).toNat = n % 8 := by
    rw [BitVec.toNat_and, BitVec.toNat_ofNat, Nat.mod_eq_of_lt (by omega)]
    exact Nat.and_two_pow_sub_one_eq_mod n 3
  have e2 : (8#64 - (BitVec.ofNat 64 n &&& 7#64)).toNat = 8 - n % 8 := by
    rw [BitVec.toNat_sub, e1]
    simp; omega
  simp [Env.get, Env.put, e1, e2, oneOrTuple, rotB]

/-! the tables of contracts -/
noncomputable def c14 := conC (fun p : BitVec 8 × BitVec 8 => [u8 p.1, u8 p.2]) (fun _ _ => True) (fun p h => (u8 (mulB p.1 p.2), h))
noncomputable def c38 := conC (fun p : BitVec 8 × Nat => [u8 p.1, nat p.2]) (fun p _ => p.2 < 8) (fun p h => (u8 (rotB p.1 p.2), h))
noncomputable def callA1 : Calling := addC (addC noC 14 c14) 38 c38

theorem c14_eq (a b : BitVec 8) (h : Heap) : c14 [u8 a, u8 b] h = some (u8 (mulB a b), h) :=
  conC_eq (enc := fun p : BitVec 8 × BitVec 8 => [u8 p.1, u8 p.2]) (a := (a, b)) (f := fun p h => (u8 (mulB p.1 p.2), h)) (fun x y h e => by simp [u8_inj] at e; rw [e.1, e.2]) trivial
theorem c38_eq (a : BitVec 8) (n : Nat) (h : Heap) (hn : n < 8) : c38 [u8 a, nat n] h = some (u8 (rotB a n), h) :=
  conC_eq (enc := fun p : BitVec 8 × Nat => [u8 p.1, nat p.2]) (a := (a, n)) (f := fun p h => (u8 (rotB p.1 p.2), h)) (fun x y h e => by simp [u8_inj, nat_inj] at e; rw [e.1, e.2]) hn

theorem callA1_ok : CallOK Try.prog callA1 :=
  addC_con (addC_con (noC_ok _) k14 fun p h _ => s14 (noC_ok _) (walk14 _ p.1 p.2 h)) k38 fun p h hp => s38 (noC_ok _) (walk38 _ p.1 p.2 hp h)

@[simp] theorem callA1_14 (a b : BitVec 8) (h : Heap) : callA1 14 [u8 a, u8 b] h = some (u8 (mulB a b), h) := by simp [callA1, addC, c14_eq]
@[simp] theorem callA1_38 (a : BitVec 8) (n : Nat) (h : Heap) (hn : n < 8) : callA1 38 [u8 a, nat n] h = some (u8 (rotB a n), h) := by simp [callA1, addC, c38_eq, hn]

/-! the substitute -/
theorem walk16 (a : BitVec 8) (h : Heap) : evBody (cx16 callA1) Try.f16 n16_0 [u8 a] h = some (u8 (subB a), h) := by
  rw [b16]
  have L : ∀ x8 x13, ∃ r, evLoop (evC (cx16 callA1) n16_6) ⟨[(0, u8 a), (1, .junk), (2, u8 0#8), (3, u8 1#8), (4, u8 a), (5, nat 254), (8, x8), (13, x13)], h⟩ = some r ∧
      ∃ y4 y5 y8 y13, r = (.exit 0, ⟨[(0, u8 a), (1, .junk), (2, u8 0#8), (3, u8 (invB a)), (4, y4), (5, y5), (8, y8), (13, y13)], h⟩) := by
    intro x8 x13
    refine evLoop_rule (fun f s => ∃ n b c x8 x13, s = ⟨[(0, u8 a), (1, .junk), (2, u8 0#8), (3, u8 b), (4, u8 c), (5, nat n), (8, x8), (13, x13)], h⟩ ∧ n < 2 ^ f ∧ n < 256 ∧ powL f n b c = invB a) ?_ 8 _ ⟨254, 1#8, a, _, _, rfl, by decide, by decide, rfl⟩
    rintro f s ⟨n, b, c, x8, x13, rfl, hf, hn, hm⟩
    by_cases h0 : n = 0
    · subst h0
      rw [powL_zero] at hm
      subst hm
      refine ex_of (by conv => lhs; simp [Env.get, Env.put]) ?_
      exact .inr ⟨by simp, _, _, _, _, rfl⟩
    · obtain ⟨m, rfl⟩ : ∃ m, f = m + 1 := by
        cases f with
        | zero => simp at hf; omega
        | succ m => exact ⟨m, rfl⟩
      rw [Nat.pow_succ] at hf
      have e1 : mBin .and (nat n) (nat 1) = some (nat (n % 2)) := by rw [nat_and (by omega) (by omega), Nat.and_one_is_mod]
      have e2 : mBin .shr (nat n) (u64 1#64) = some (nat (n / 2)) := by rw [nat_shr_u64 (by omega)]; rfl
      have h0' : 0 < n := by omega
      simp only [powL] at hm
      by_cases h1 : n % 2 = 1
      · rw [if_pos h1] at hm
        refine ex_of (by conv => lhs; simp [Env.get, Env.put, h0', h1, e1, e2]) ?_
        exact .inl ⟨rfl, m, by omega, _, _, _, _, _, rfl, by omega, by omega, hm⟩
      · rw [if_neg h1] at hm
        refine ex_of (by conv => lhs; simp [Env.get, Env.put, h0', h1, e1, e2]) ?_
        exact .inl ⟨rfl, m, by omega, _, _, _, _, _, rfl, by omega, by omega, hm⟩
  obtain ⟨r, hr, y4, y5, y8, y13, rfl⟩ := L .junk .junk
  simp [Env.get, Env.put, hr, oneOrTuple, subB]

noncomputable def c16 := conC (fun a : BitVec 8 => [u8 a]) (fun _ _ => True) (fun a h => (u8 (subB a), h))
noncomputable def callA2 : Calling := addC callA1 16 c16
theorem c16_eq (a : BitVec 8) (h : Heap) : c16 [u8 a] h = some (u8 (subB a), h) :=
  conC_eq (enc := fun a : BitVec 8 => [u8 a]) (a := a) (f := fun a h => (u8 (subB a), h)) (fun x y h e => by simp [u8_inj] at e; rw [e]) trivial
theorem callA2_ok : CallOK Try.prog callA2 := addC_con callA1_ok k16 fun a h _ => s16 callA1_ok (walk16 a h)
@[simp] theorem callA2_14 (a b : BitVec 8) (h : Heap) : callA2 14 [u8 a, u8 b] h = some (u8 (mulB a b), h) := by simp [callA2, addC]
@[simp] theorem callA2_16 (a : BitVec 8) (h : Heap) : callA2 16 [u8 a] h = some (u8 (subB a), h) := by simp [callA2, addC, c16_eq]

/-! the table -/
def sbF (j : Nat) : BitVec 8 := subB (BitVec.ofNat 8 j)

theorem walk40 (h : Heap) : ∃ t, evBody (cx40 callA2) Try.f40 n40_0 [] h = some (arr 256 sbF, h ++ t) := by
  rw [b40]
  have L : ∀ x1 x3, ∃ r, evLoop (evC (cx40 callA2) n40_5) ⟨[(0, .ptr h.length 0 [] (.arr 256 (.int .u8))), (1, x1), (2, nat 0), (3, x3)], h ++ [⟨(arr 256 fun _ => 0#8), 0, .own⟩]⟩ = some r ∧
      ∃ y1 y2 y3, r = (.exit 0, ⟨[(0, .ptr h.length 0 [] (.arr 256 (.int .u8))), (1, y1), (2, y2), (3, y3)], h ++ [⟨arr 256 sbF, 0, .own⟩]⟩) := by
    intro x1 x3
    refine evLoop_up 256 (fun i s => ∃ x1 x3 g, s = ⟨[(0, .ptr h.length 0 [] (.arr 256 (.int .u8))), (1, x1), (2, nat i), (3, x3)], h ++ [⟨arr 256 g, 0, .own⟩]⟩ ∧ ∀ j, j < i → g j = sbF j) ?_ ?_ ⟨_, _, _, rfl, fun j hj => absurd hj (by omega)⟩
    · rintro i s hi ⟨x1, x3, g, rfl, hg⟩
      have e1 : mBin .add (nat i) (nat 1) = some (nat (i + 1)) := nat_add (by omega)
      refine ex_of (by conv => lhs; simp [Env.get, Env.put, hi, e1]) ?_
      refine ⟨rfl, _, _, _, rfl, fun j hj => ?_⟩
      by_cases hji : j = i
      · subst hji; rw [upd_same]; rfl
      · rw [upd_ne _ _ hji]; exact hg j (by omega)
    · rintro s ⟨x1, x3, g, rfl, hg⟩
      refine ex_of (by conv => lhs; simp [Env.get, Env.put]) ?_
      rw [arr_congr hg]
      exact ⟨by simp, _, _, _, rfl⟩
  obtain ⟨r, hr, y1, y2, y3, rfl⟩ := L .junk .junk
  refine ⟨[⟨arr 256 sbF, 0, .own⟩], ?_⟩
  simp [Env.get, Env.put, hr, oneOrTuple]

noncomputable def c40 := conC (fun _ : Unit => []) (fun _ _ => True) (fun _ h => (arr 256 sbF, h))
noncomputable def callA3 : Calling := addC callA2 40 c40
theorem c40_eq (h : Heap) : c40 [] h = some (arr 256 sbF, h) :=
  conC_eq (enc := fun _ : Unit => []) (a := ()) (f := fun _ h => (arr 256 sbF, h)) (fun _ _ _ _ => rfl) trivial
theorem callA3_ok : CallOK Try.prog callA3 := addC_con callA2_ok k40 fun a h _ => by
  obtain ⟨t, ht⟩ := walk40 h
  exact (s40 callA2_ok ht).drop0 t rfl
@[simp] theorem callA3_14 (a b : BitVec 8) (h : Heap) : callA3 14 [u8 a, u8 b] h = some (u8 (mulB a b), h) := by simp [callA3, addC]
@[simp] theorem callA3_16 (a : BitVec 8) (h : Heap) : callA3 16 [u8 a] h = some (u8 (subB a), h) := by simp [callA3, addC]
@[simp] theorem callA3_40 (h : Heap) : callA3 40 [] h = some (arr 256 sbF, h) := by simp [callA3, addC, c40_eq]

end Go.Vab

/- How the evaluator reads the functions of a seat. Printed by wip/tools/gen.py (own work). -/
namespace Go.Vab
open Go Go.Proofs
/-! vestry/aes.words -/
noncomputable def cx41 (call : Calling) : Ctx := ⟨call, TT, 108, [11, 12, 14, 15, 16, 17, 18, 19, 20, 21, 22, 23, 24, 25, 26, 27, 28, 31, 32, 33, 34, 35, 36, 37, 38, 39, 40, 41, 42, 43, 44, 45, 46, 47, 48, 49, 50, 51, 52, 53, 54, 55, 56, 57, 58, 59, 60, 62, 63, 64, 65, 66, 67, 68, 69, 70, 71, 72, 73, 74, 75, 76, 77, 78, 79, 80, 81, 82, 83, 84, 85, 86, 87, 90, 91, 92, 93, 94, 95, 96, 97, 98, 99, 100, 101, 102, 103, 104, 105, 106, 107]⟩
noncomputable def n41_0 : Code := bodyOf Try.f41
noncomputable def n41_1 : Code := cR n41_0
noncomputable def n41_2 : Code := cR n41_1
noncomputable def n41_3 : Code := cL n41_2
noncomputable def n41_4 : Code := cR n41_3
noncomputable def n41_5 : Code := cB n41_4
noncomputable def n41_6 : Code := cB n41_5
noncomputable def n41_7 : Code := cR n41_6
noncomputable def n41_8 : Code := cL n41_7
noncomputable def n41_9 : Code := cL n41_8
noncomputable def n41_10 : Code := cR n41_8
noncomputable def n41_11 : Code := cR n41_7
noncomputable def n41_12 : Code := cL n41_11
noncomputable def n41_13 : Code := cB n41_12
noncomputable def n41_14 : Code := cR n41_13
noncomputable def n41_15 : Code := cL n41_14
noncomputable def n41_16 : Code := cR n41_15
noncomputable def n41_17 : Code := cL n41_16
noncomputable def n41_18 : Code := cR n41_17
noncomputable def n41_19 : Code := cR n41_16
noncomputable def n41_20 : Code := cR n41_14
noncomputable def n41_21 : Code := cR n41_20
noncomputable def n41_22 : Code := cL n41_21
noncomputable def n41_23 : Code := cR n41_22
noncomputable def n41_24 : Code := cB n41_23
noncomputable def n41_25 : Code := cR n41_24
noncomputable def n41_26 : Code := cL n41_25
noncomputable def n41_27 : Code := cR n41_26
noncomputable def n41_28 : Code := cR n41_25
noncomputable def n41_29 : Code := cR n41_28
noncomputable def n41_30 : Code := cL n41_29
noncomputable def n41_31 : Code := cR n41_29
noncomputable def n41_32 : Code := cR n41_21
noncomputable def n41_33 : Code := cR n41_32
noncomputable def n41_34 : Code := cB n41_33
noncomputable def n41_35 : Code := cB n41_34
noncomputable def n41_36 : Code := cR n41_35
noncomputable def n41_37 : Code := cL n41_36
noncomputable def n41_38 : Code := cL n41_37
noncomputable def n41_39 : Code := cR n41_37
noncomputable def n41_40 : Code := cR n41_36
noncomputable def n41_41 : Code := cL n41_40
noncomputable def n41_42 : Code := cB n41_41
noncomputable def n41_43 : Code := cR n41_42
noncomputable def n41_44 : Code := cR n41_40
noncomputable def n41_45 : Code := cR n41_11
noncomputable def n41_46 : Code := cR n41_2
noncomputable def n41_47 : Code := cR n41_46
@[simp] theorem n41_9_eq (call : Calling) (s : St) : evC (cx41 call) n41_9 s = some (.nrm, s) := ev_skip (by kernel_rfl)
@[simp] theorem n41_10_eq (call : Calling) (s : St) : evC (cx41 call) n41_10 s = some (.exit 0, s) := ev_exit 0 (by kernel_rfl)
@[simp] theorem n41_8_eq (call : Calling) (s : St) : evC (cx41 call) n41_8 s = cnd (s.env.get 10) (evC (cx41 call) n41_9 s) (evC (cx41 call) n41_10 s) := ev_cond 10 _ _ (by kernel_rfl)
@[simp] theorem n41_18_eq (call : Calling) (s : St) : evC (cx41 call) n41_18 s = some (.exit 1, s) := ev_exit 1 (by kernel_rfl)
@[simp] theorem n41_17_eq (call : Calling) (env : Env) (h : Heap) : evC (cx41 call) n41_17 ⟨env, h⟩ = (bnd (pureV h (mBin .mul (nat 4) (env.get 6))) fun r2 => bnd (pureV r2.2 (mBin .mul (nat 4) (env.get 6))) fun r4 => bnd (pureV r4.2 (mBin .add r4.1 (nat 4))) fun r5 => bnd (pureV r5.2 (mSliceA (.arr 32 (.int .u8)) (env.get 2) (some r2.1) (some r5.1) none)) fun r6 => bnd (pureV r6.2 (mArrayAt 4 (.int .u8) r6.1)) fun r7 => bnd (pureV r7.2 (mLoad (.arr 4 (.int .u8)) r7.1 r7.2)) fun r8 => bnd (pureV r8.2 (mIdxA (.arr 60 (.arr 4 (.int .u8))) (env.get 4) (env.get 6))) fun r9 => bnd (stU (.arr 4 (.int .u8)) r9.1 r8.1 r9.2) fun r10 => evC (cx41 call) n41_18 ⟨env, r10.2⟩) := (ev_seqreg 6 (cOps (cL n41_17)) (cR n41_17) (by kernel_rfl)).trans (by
  refine opsK_0 ?_
  refine opsK_t 14 (env.get 6) (by kernel_rfl) (by kernel_rfl) (by kernel_rfl) (by kernel_rfl) ?_
  refine opsK_t 15 (env.get 6) (by kernel_rfl) (by kernel_rfl) (by kernel_rfl) (by kernel_rfl) ?_
  refine opsK_p 16 (by kernel_rfl) (by kernel_rfl) (by kernel_rfl) (by kernel_rfl) fun r2 => ?_
  refine opsK_t 17 (env.get 6) (by kernel_rfl) (by kernel_rfl) (by kernel_rfl) (by kernel_rfl) ?_
  refine opsK_p 18 (by kernel_rfl) (by kernel_rfl) (by kernel_rfl) (by kernel_rfl) fun r4 => ?_
  refine opsK_p 19 (by kernel_rfl) (by kernel_rfl) (by kernel_rfl) (by kernel_rfl) fun r5 => ?_
  refine opsK_p 20 (by kernel_rfl) (by kernel_rfl) (by kernel_rfl) (by kernel_rfl) fun r6 => ?_
  refine opsK_p 21 (by kernel_rfl) (by kernel_rfl) (by kernel_rfl) (by kernel_rfl) fun r7 => ?_
  refine opsK_p 22 (by kernel_rfl) (by kernel_rfl) (by kernel_rfl) (by kernel_rfl) fun r8 => ?_
  refine opsK_p 23 (by kernel_rfl) (by kernel_rfl) (by kernel_rfl) (by kernel_rfl) fun r9 => ?_
  refine opsK_n (by kernel_rfl) (by kernel_rfl) (by kernel_rfl) fun r10 => ?_
  exact opsK_e (by kernel_rfl) (by kernel_rfl))
@[simp] theorem n41_19_eq (call : Calling) (s : St) : evC (cx41 call) n41_19 s = some (.nrm, s) := ev_skip (by kernel_rfl)
@[simp] theorem n41_16_eq (call : Calling) (s : St) : evC (cx41 call) n41_16 s = cnd (s.env.get 13) (evC (cx41 call) n41_17 s) (evC (cx41 call) n41_19 s) := ev_cond 13 _ _ (by kernel_rfl)
@[simp] theorem n41_15_eq (call : Calling) (env : Env) (h : Heap) : evC (cx41 call) n41_15 ⟨env, h⟩ = (bnd (pureV h (mBin .lss (env.get 6) (nat 8))) fun r1 => evC (cx41 call) n41_16 ⟨(Env.put env 13 r1.1), r1.2⟩) := (ev_seqreg 5 (cOps (cL n41_15)) (cR n41_15) (by kernel_rfl)).trans (by
  refine opsK_0 ?_
  refine opsK_t 12 (env.get 6) (by kernel_rfl) (by kernel_rfl) (by kernel_rfl) (by kernel_rfl) ?_
  refine opsK_p 13 (by kernel_rfl) (by kernel_rfl) (by kernel_rfl) (by kernel_rfl) fun r1 => ?_
  exact opsK_e (by kernel_rfl) (by kernel_rfl))
@[simp] theorem n41_27_eq (call : Calling) (env : Env) (h : Heap) : evC (cx41 call) n41_27 ⟨env, h⟩ = (bnd (call 14 [(env.get 5), (u8 2#8)] h) fun r1 => some (.nrm, ⟨(Env.put env 5 r1.1), r1.2⟩)) := (ev_reg 11 (cOps n41_27) (by kernel_rfl)).trans (by
  refine opsK_0 ?_
  refine opsK_t 59 (env.get 5) (by kernel_rfl) (by kernel_rfl) (by kernel_rfl) (by kernel_rfl) ?_
  refine opsK_p 60 (by kernel_rfl) (by kernel_rfl) (by kernel_rfl) (by kernel_rfl) fun r1 => ?_
  refine opsK_t 5 r1.1 (by kernel_rfl) (by kernel_rfl) (by kernel_rfl) (by kernel_rfl) ?_
  exact opsK_e (by kernel_rfl) (by kernel_rfl))
theorem n41_26_ok : drawOk (cOps (cL n41_26)).toList = true := by kernel_rfl
@[simp] theorem n41_26_eq (call : Calling) (env : Env) (h : Heap) : evC (cx41 call) n41_26 ⟨env, h⟩ = (bnd (pureV h (mIdxA (.arr 4 (.int .u8)) (env.get 7) (nat 1))) fun r1 => bnd (pureV r1.2 (mLoad (.int .u8) r1.1 r1.2)) fun r2 => bnd (pureV r2.2 (mNilCheck (env.get 1))) fun r3 => bnd (pureV r3.2 (mIdxA (.arr 256 (.int .u8)) r3.1 r2.1)) fun r4 => bnd (pureV r4.2 (mLoad (.int .u8) r4.1 r4.2)) fun r5 => bnd (pureV r5.2 (mBin .xor r5.1 (env.get 5))) fun r7 => bnd (pureV r7.2 (mIdxA (.arr 4 (.int .u8)) (env.get 7) (nat 2))) fun r9 => bnd (pureV r9.2 (mLoad (.int .u8) r9.1 r9.2)) fun r10 => bnd (pureV r10.2 (mNilCheck (env.get 1))) fun r11 => bnd (pureV r11.2 (mIdxA (.arr 256 (.int .u8)) r11.1 r10.1)) fun r12 => bnd (pureV r12.2 (mLoad (.int .u8) r12.1 r12.2)) fun r13 => bnd (pureV r13.2 (mIdxA (.arr 4 (.int .u8)) (env.get 7) (nat 3))) fun r15 => bnd (pureV r15.2 (mLoad (.int .u8) r15.1 r15.2)) fun r16 => bnd (pureV r16.2 (mNilCheck (env.get 1))) fun r17 => bnd (pureV r17.2 (mIdxA (.arr 256 (.int .u8)) r17.1 r16.1)) fun r18 => bnd (pureV r18.2 (mLoad (.int .u8) r18.1 r18.2)) fun r19 => bnd (pureV r19.2 (mIdxA (.arr 4 (.int .u8)) (env.get 7) (nat 0))) fun r21 => bnd (pureV r21.2 (mLoad (.int .u8) r21.1 r21.2)) fun r22 => bnd (pureV r22.2 (mNilCheck (env.get 1))) fun r23 => bnd (pureV r23.2 (mIdxA (.arr 256 (.int .u8)) r23.1 r22.1)) fun r24 => bnd (pureV r24.2 (mLoad (.int .u8) r24.1 r24.2)) fun r25 => bnd (pureV r25.2 (fillRow (.arr 4 (.int .u8)) (arr 4 fun _ => 0#8) [(0, r7.1), (1, r13.1), (2, r19.1), (3, r25.1)])) fun r26 => bnd (stU (.arr 4 (.int .u8)) (env.get 7) r26.1 r26.2) fun r27 => evC (cx41 call) n41_27 ⟨env, r27.2⟩) := (ev_seqdraw 10 (cOps (cL n41_26)) (cR n41_26) (by kernel_rfl) n41_26_ok).trans (by
  refine opsK_0 ?_
  refine opsK_t 32 (env.get 1) (by kernel_rfl) (by kernel_rfl) (by kernel_rfl) (by kernel_rfl) ?_
  refine opsK_p 33 (by kernel_rfl) (by kernel_rfl) (by kernel_rfl) (by kernel_rfl) fun r1 => ?_
  refine opsK_p 34 (by kernel_rfl) (by kernel_rfl) (by kernel_rfl) (by kernel_rfl) fun r2 => ?_
  refine opsK_p 35 (by kernel_rfl) (by kernel_rfl) (by kernel_rfl) (by kernel_rfl) fun r3 => ?_
  refine opsK_p 36 (by kernel_rfl) (by kernel_rfl) (by kernel_rfl) (by kernel_rfl) fun r4 => ?_
  refine opsK_p 37 (by kernel_rfl) (by kernel_rfl) (by kernel_rfl) (by kernel_rfl) fun r5 => ?_
  refine opsK_t 38 (env.get 5) (by kernel_rfl) (by kernel_rfl) (by kernel_rfl) (by kernel_rfl) ?_
  refine opsK_p 39 (by kernel_rfl) (by kernel_rfl) (by kernel_rfl) (by kernel_rfl) fun r7 => ?_
  refine opsK_t 40 (env.get 1) (by kernel_rfl) (by kernel_rfl) (by kernel_rfl) (by kernel_rfl) ?_
  refine opsK_p 41 (by kernel_rfl) (by kernel_rfl) (by kernel_rfl) (by kernel_rfl) fun r9 => ?_
  refine opsK_p 42 (by kernel_rfl) (by kernel_rfl) (by kernel_rfl) (by kernel_rfl) fun r10 => ?_
  refine opsK_p 43 (by kernel_rfl) (by kernel_rfl) (by kernel_rfl) (by kernel_rfl) fun r11 => ?_
  refine opsK_p 44 (by kernel_rfl) (by kernel_rfl) (by kernel_rfl) (by kernel_rfl) fun r12 => ?_
  refine opsK_p 45 (by kernel_rfl) (by kernel_rfl) (by kernel_rfl) (by kernel_rfl) fun r13 => ?_
  refine opsK_t 46 (env.get 1) (by kernel_rfl) (by kernel_rfl) (by kernel_rfl) (by kernel_rfl) ?_
  refine opsK_p 47 (by kernel_rfl) (by kernel_rfl) (by kernel_rfl) (by kernel_rfl) fun r15 => ?_
  refine opsK_p 48 (by kernel_rfl) (by kernel_rfl) (by kernel_rfl) (by kernel_rfl) fun r16 => ?_
  refine opsK_p 49 (by kernel_rfl) (by kernel_rfl) (by kernel_rfl) (by kernel_rfl) fun r17 => ?_
  refine opsK_p 50 (by kernel_rfl) (by kernel_rfl) (by kernel_rfl) (by kernel_rfl) fun r18 => ?_
  refine opsK_p 51 (by kernel_rfl) (by kernel_rfl) (by kernel_rfl) (by kernel_rfl) fun r19 => ?_
  refine opsK_t 52 (env.get 1) (by kernel_rfl) (by kernel_rfl) (by kernel_rfl) (by kernel_rfl) ?_
  refine opsK_p 53 (by kernel_rfl) (by kernel_rfl) (by kernel_rfl) (by kernel_rfl) fun r21 => ?_
  refine opsK_p 54 (by kernel_rfl) (by kernel_rfl) (by kernel_rfl) (by kernel_rfl) fun r22 => ?_
  refine opsK_p 55 (by kernel_rfl) (by kernel_rfl) (by kernel_rfl) (by kernel_rfl) fun r23 => ?_
  refine opsK_p 56 (by kernel_rfl) (by kernel_rfl) (by kernel_rfl) (by kernel_rfl) fun r24 => ?_
  refine opsK_p 57 (by kernel_rfl) (by kernel_rfl) (by kernel_rfl) (by kernel_rfl) fun r25 => ?_
  refine opsK_p 58 (by kernel_rfl) (by kernel_rfl) (by kernel_rfl) (by kernel_rfl) fun r26 => ?_
  refine opsK_n (by kernel_rfl) (by kernel_rfl) (by kernel_rfl) fun r27 => ?_
  exact opsK_e (by kernel_rfl) (by kernel_rfl))
theorem n41_30_ok : drawOk (cOps n41_30).toList = true := by kernel_rfl
@[simp] theorem n41_30_eq (call : Calling) (env : Env) (h : Heap) : evC (cx41 call) n41_30 ⟨env, h⟩ = (bnd (pureV h (mIdxA (.arr 4 (.int .u8)) (env.get 7) (nat 0))) fun r1 => bnd (pureV r1.2 (mLoad (.int .u8) r1.1 r1.2)) fun r2 => bnd (pureV r2.2 (mNilCheck (env.get 1))) fun r3 => bnd (pureV r3.2 (mIdxA (.arr 256 (.int .u8)) r3.1 r2.1)) fun r4 => bnd (pureV r4.2 (mLoad (.int .u8) r4.1 r4.2)) fun r5 => bnd (pureV r5.2 (mIdxA (.arr 4 (.int .u8)) (env.get 7) (nat 1))) fun r7 => bnd (pureV r7.2 (mLoad (.int .u8) r7.1 r7.2)) fun r8 => bnd (pureV r8.2 (mNilCheck (env.get 1))) fun r9 => bnd (pureV r9.2 (mIdxA (.arr 256 (.int .u8)) r9.1 r8.1)) fun r10 => bnd (pureV r10.2 (mLoad (.int .u8) r10.1 r10.2)) fun r11 => bnd (pureV r11.2 (mIdxA (.arr 4 (.int .u8)) (env.get 7) (nat 2))) fun r13 => bnd (pureV r13.2 (mLoad (.int .u8) r13.1 r13.2)) fun r14 => bnd (pureV r14.2 (mNilCheck (env.get 1))) fun r15 => bnd (pureV r15.2 (mIdxA (.arr 256 (.int .u8)) r15.1 r14.1)) fun r16 => bnd (pureV r16.2 (mLoad (.int .u8) r16.1 r16.2)) fun r17 => bnd (pureV r17.2 (mIdxA (.arr 4 (.int .u8)) (env.get 7) (nat 3))) fun r19 => bnd (pureV r19.2 (mLoad (.int .u8) r19.1 r19.2)) fun r20 => bnd (pureV r20.2 (mNilCheck (env.get 1))) fun r21 => bnd (pureV r21.2 (mIdxA (.arr 256 (.int .u8)) r21.1 r20.1)) fun r22 => bnd (pureV r22.2 (mLoad (.int .u8) r22.1 r22.2)) fun r23 => bnd (pureV r23.2 (fillRow (.arr 4 (.int .u8)) (arr 4 fun _ => 0#8) [(0, r5.1), (1, r11.1), (2, r17.1), (3, r23.1)])) fun r24 => bnd (stU (.arr 4 (.int .u8)) (env.get 7) r24.1 r24.2) fun r25 => some (.nrm, ⟨env, r25.2⟩)) := (ev_draw 13 (cOps n41_30) (by kernel_rfl) n41_30_ok).trans (by
  refine opsK_0 ?_
  refine opsK_t 63 (env.get 1) (by kernel_rfl) (by kernel_rfl) (by kernel_rfl) (by kernel_rfl) ?_
  refine opsK_p 64 (by kernel_rfl) (by kernel_rfl) (by kernel_rfl) (by kernel_rfl) fun r1 => ?_
  refine opsK_p 65 (by kernel_rfl) (by kernel_rfl) (by kernel_rfl) (by kernel_rfl) fun r2 => ?_
  refine opsK_p 66 (by kernel_rfl) (by kernel_rfl) (by kernel_rfl) (by kernel_rfl) fun r3 => ?_
  refine opsK_p 67 (by kernel_rfl) (by kernel_rfl) (by kernel_rfl) (by kernel_rfl) fun r4 => ?_
  refine opsK_p 68 (by kernel_rfl) (by kernel_rfl) (by kernel_rfl) (by kernel_rfl) fun r5 => ?_
  refine opsK_t 69 (env.get 1) (by kernel_rfl) (by kernel_rfl) (by kernel_rfl) (by kernel_rfl) ?_
  refine opsK_p 70 (by kernel_rfl) (by kernel_rfl) (by kernel_rfl) (by kernel_rfl) fun r7 => ?_
  refine opsK_p 71 (by kernel_rfl) (by kernel_rfl) (by kernel_rfl) (by kernel_rfl) fun r8 => ?_
  refine opsK_p 72 (by kernel_rfl) (by kernel_rfl) (by kernel_rfl) (by kernel_rfl) fun r9 => ?_
  refine opsK_p 73 (by kernel_rfl) (by kernel_rfl) (by kernel_rfl) (by kernel_rfl) fun r10 => ?_
  refine opsK_p 74 (by kernel_rfl) (by kernel_rfl) (by kernel_rfl) (by kernel_rfl) fun r11 => ?_
  refine opsK_t 75 (env.get 1) (by kernel_rfl) (by kernel_rfl) (by kernel_rfl) (by kernel_rfl) ?_
  refine opsK_p 76 (by kernel_rfl) (by kernel_rfl) (by kernel_rfl) (by kernel_rfl) fun r13 => ?_
  refine opsK_p 77 (by kernel_rfl) (by kernel_rfl) (by kernel_rfl) (by kernel_rfl) fun r14 => ?_
  refine opsK_p 78 (by kernel_rfl) (by kernel_rfl) (by kernel_rfl) (by kernel_rfl) fun r15 => ?_
  refine opsK_p 79 (by kernel_rfl) (by kernel_rfl) (by kernel_rfl) (by kernel_rfl) fun r16 => ?_
  refine opsK_p 80 (by kernel_rfl) (by kernel_rfl) (by kernel_rfl) (by kernel_rfl) fun r17 => ?_
  refine opsK_t 81 (env.get 1) (by kernel_rfl) (by kernel_rfl) (by kernel_rfl) (by kernel_rfl) ?_
  refine opsK_p 82 (by kernel_rfl) (by kernel_rfl) (by kernel_rfl) (by kernel_rfl) fun r19 => ?_
  refine opsK_p 83 (by kernel_rfl) (by kernel_rfl) (by kernel_rfl) (by kernel_rfl) fun r20 => ?_
  refine opsK_p 84 (by kernel_rfl) (by kernel_rfl) (by kernel_rfl) (by kernel_rfl) fun r21 => ?_
  refine opsK_p 85 (by kernel_rfl) (by kernel_rfl) (by kernel_rfl) (by kernel_rfl) fun r22 => ?_
  refine opsK_p 86 (by kernel_rfl) (by kernel_rfl) (by kernel_rfl) (by kernel_rfl) fun r23 => ?_
  refine opsK_p 87 (by kernel_rfl) (by kernel_rfl) (by kernel_rfl) (by kernel_rfl) fun r24 => ?_
  refine opsK_n (by kernel_rfl) (by kernel_rfl) (by kernel_rfl) fun r25 => ?_
  exact opsK_e (by kernel_rfl) (by kernel_rfl))
@[simp] theorem n41_31_eq (call : Calling) (s : St) : evC (cx41 call) n41_31 s = some (.nrm, s) := ev_skip (by kernel_rfl)
@[simp] theorem n41_29_eq (call : Calling) (s : St) : evC (cx41 call) n41_29 s = cnd (s.env.get 61) (evC (cx41 call) n41_30 s) (evC (cx41 call) n41_31 s) := ev_cond 61 _ _ (by kernel_rfl)
@[simp] theorem n41_28_eq (call : Calling) (env : Env) (h : Heap) : evC (cx41 call) n41_28 ⟨env, h⟩ = (bnd (pureV h (mBin .eql (env.get 29) (nat 4))) fun r0 => evC (cx41 call) n41_29 ⟨(Env.put env 61 r0.1), r0.2⟩) := (ev_seqreg 12 (cOps (cL n41_28)) (cR n41_28) (by kernel_rfl)).trans (by
  refine opsK_0 ?_
  refine opsK_p 62 (by kernel_rfl) (by kernel_rfl) (by kernel_rfl) (by kernel_rfl) fun r0 => ?_
  refine opsK_t 61 r0.1 (by kernel_rfl) (by kernel_rfl) (by kernel_rfl) (by kernel_rfl) ?_
  exact opsK_e (by kernel_rfl) (by kernel_rfl))
@[simp] theorem n41_25_eq (call : Calling) (s : St) : evC (cx41 call) n41_25 s = cnd (s.env.get 30) (evC (cx41 call) n41_26 s) (evC (cx41 call) n41_28 s) := ev_cond 30 _ _ (by kernel_rfl)
@[simp] theorem n41_24_eq (call : Calling) (env : Env) (h : Heap) : evC (cx41 call) n41_24 ⟨env, h⟩ = (bnd (pureV h (mBin .eql (env.get 29) (nat 0))) fun r0 => evC (cx41 call) n41_25 ⟨(Env.put env 30 r0.1), r0.2⟩) := (ev_seqreg 9 (cOps (cL n41_24)) (cR n41_24) (by kernel_rfl)).trans (by
  refine opsK_0 ?_
  refine opsK_p 31 (by kernel_rfl) (by kernel_rfl) (by kernel_rfl) (by kernel_rfl) fun r0 => ?_
  refine opsK_t 30 r0.1 (by kernel_rfl) (by kernel_rfl) (by kernel_rfl) (by kernel_rfl) ?_
  exact opsK_e (by kernel_rfl) (by kernel_rfl))
@[simp] theorem n41_23_eq (call : Calling) (s : St) : evC (cx41 call) n41_23 s = bnd (evC (cx41 call) n41_24 s) fun r => some (inBlk 2 r) := ev_block 2 _ (by kernel_rfl)
@[simp] theorem n41_22_eq (call : Calling) (env : Env) (h : Heap) : evC (cx41 call) n41_22 ⟨env, h⟩ = (bnd (pureV h (mBin .rem (env.get 6) (nat 8))) fun r1 => evC (cx41 call) n41_23 ⟨(Env.put env 29 r1.1), r1.2⟩) := (ev_seqreg 8 (cOps (cL n41_22)) (cR n41_22) (by kernel_rfl)).trans (by
  refine opsK_0 ?_
  refine opsK_t 28 (env.get 6) (by kernel_rfl) (by kernel_rfl) (by kernel_rfl) (by kernel_rfl) ?_
  refine opsK_p 29 (by kernel_rfl) (by kernel_rfl) (by kernel_rfl) (by kernel_rfl) fun r1 => ?_
  exact opsK_e (by kernel_rfl) (by kernel_rfl))
@[simp] theorem n41_38_eq (call : Calling) (s : St) : evC (cx41 call) n41_38 s = some (.nrm, s) := ev_skip (by kernel_rfl)
@[simp] theorem n41_39_eq (call : Calling) (s : St) : evC (cx41 call) n41_39 s = some (.exit 3, s) := ev_exit 3 (by kernel_rfl)
@[simp] theorem n41_37_eq (call : Calling) (s : St) : evC (cx41 call) n41_37 s = cnd (s.env.get 89) (evC (cx41 call) n41_38 s) (evC (cx41 call) n41_39 s) := ev_cond 89 _ _ (by kernel_rfl)
theorem n41_43_ok : drawOk (cOps n41_43).toList = true := by kernel_rfl
@[simp] theorem n41_43_eq (call : Calling) (env : Env) (h : Heap) : evC (cx41 call) n41_43 ⟨env, h⟩ = (bnd (pureV h (mBin .sub (env.get 6) (nat 8))) fun r3 => bnd (pureV r3.2 (mIdxA (.arr 60 (.arr 4 (.int .u8))) (env.get 4) r3.1)) fun r5 => bnd (pureV r5.2 (mIdxA (.arr 4 (.int .u8)) r5.1 (env.get 8))) fun r6 => bnd (pureV r6.2 (mLoad (.int .u8) r6.1 r6.2)) fun r7 => bnd (pureV r7.2 (mIdxA (.arr 4 (.int .u8)) (env.get 7) (env.get 8))) fun r9 => bnd (pureV r9.2 (mLoad (.int .u8) r9.1 r9.2)) fun r10 => bnd (pureV r10.2 (mBin .xor r7.1 r10.1)) fun r11 => bnd (pureV r11.2 (mIdxA (.arr 60 (.arr 4 (.int .u8))) (env.get 4) (env.get 6))) fun r12 => bnd (pureV r12.2 (mIdxA (.arr 4 (.int .u8)) r12.1 (env.get 8))) fun r13 => bnd (stU (.int .u8) r13.1 r11.1 r13.2) fun r14 => some (.nrm, ⟨env, r14.2⟩)) := (ev_draw 17 (cOps n41_43) (by kernel_rfl) n41_43_ok).trans (by
  refine opsK_0 ?_
  refine opsK_t 91 (env.get 6) (by kernel_rfl) (by kernel_rfl) (by kernel_rfl) (by kernel_rfl) ?_
  refine opsK_t 92 (env.get 8) (by kernel_rfl) (by kernel_rfl) (by kernel_rfl) (by kernel_rfl) ?_
  refine opsK_t 93 (env.get 6) (by kernel_rfl) (by kernel_rfl) (by kernel_rfl) (by kernel_rfl) ?_
  refine opsK_p 94 (by kernel_rfl) (by kernel_rfl) (by kernel_rfl) (by kernel_rfl) fun r3 => ?_
  refine opsK_t 95 (env.get 8) (by kernel_rfl) (by kernel_rfl) (by kernel_rfl) (by kernel_rfl) ?_
  refine opsK_p 96 (by kernel_rfl) (by kernel_rfl) (by kernel_rfl) (by kernel_rfl) fun r5 => ?_
  refine opsK_p 97 (by kernel_rfl) (by kernel_rfl) (by kernel_rfl) (by kernel_rfl) fun r6 => ?_
  refine opsK_p 98 (by kernel_rfl) (by kernel_rfl) (by kernel_rfl) (by kernel_rfl) fun r7 => ?_
  refine opsK_t 99 (env.get 8) (by kernel_rfl) (by kernel_rfl) (by kernel_rfl) (by kernel_rfl) ?_
  refine opsK_p 100 (by kernel_rfl) (by kernel_rfl) (by kernel_rfl) (by kernel_rfl) fun r9 => ?_
  refine opsK_p 101 (by kernel_rfl) (by kernel_rfl) (by kernel_rfl) (by kernel_rfl) fun r10 => ?_
  refine opsK_p 102 (by kernel_rfl) (by kernel_rfl) (by kernel_rfl) (by kernel_rfl) fun r11 => ?_
  refine opsK_p 103 (by kernel_rfl) (by kernel_rfl) (by kernel_rfl) (by kernel_rfl) fun r12 => ?_
  refine opsK_p 104 (by kernel_rfl) (by kernel_rfl) (by kernel_rfl) (by kernel_rfl) fun r13 => ?_
  refine opsK_n (by kernel_rfl) (by kernel_rfl) (by kernel_rfl) fun r14 => ?_
  exact opsK_e (by kernel_rfl) (by kernel_rfl))
@[simp] theorem n41_42_eq (call : Calling) (env : Env) (h : Heap) : evC (cx41 call) n41_42 ⟨env, h⟩ = ( evC (cx41 call) n41_43 ⟨(Env.put env 8 (env.get 88)), h⟩) := (ev_seqreg 16 (cOps (cL n41_42)) (cR n41_42) (by kernel_rfl)).trans (by
  refine opsK_0 ?_
  refine opsK_t 90 (env.get 88) (by kernel_rfl) (by kernel_rfl) (by kernel_rfl) (by kernel_rfl) ?_
  refine opsK_t 8 (env.get 88) (by kernel_rfl) (by kernel_rfl) (by kernel_rfl) (by kernel_rfl) ?_
  exact opsK_e (by kernel_rfl) (by kernel_rfl))
@[simp] theorem n41_41_eq (call : Calling) (s : St) : evC (cx41 call) n41_41 s = bnd (evC (cx41 call) n41_42 s) fun r => some (inBlk 4 r) := ev_block 4 _ (by kernel_rfl)
@[simp] theorem n41_44_eq (call : Calling) (env : Env) (h : Heap) : evC (cx41 call) n41_44 ⟨env, h⟩ = (bnd (pureV h (mBin .add (env.get 88) (nat 1))) fun r0 => some (.nrm, ⟨(Env.put env 88 r0.1), r0.2⟩)) := (ev_reg 18 (cOps n41_44) (by kernel_rfl)).trans (by
  refine opsK_0 ?_
  refine opsK_p 105 (by kernel_rfl) (by kernel_rfl) (by kernel_rfl) (by kernel_rfl) fun r0 => ?_
  refine opsK_t 88 r0.1 (by kernel_rfl) (by kernel_rfl) (by kernel_rfl) (by kernel_rfl) ?_
  exact opsK_e (by kernel_rfl) (by kernel_rfl))
@[simp] theorem n41_40_eq (call : Calling) (s : St) : evC (cx41 call) n41_40 s = bnd (evC (cx41 call) n41_41 s) (sqK (evC (cx41 call) n41_44)) := ev_seq _ _ (by kernel_rfl)
@[simp] theorem n41_36_eq (call : Calling) (s : St) : evC (cx41 call) n41_36 s = bnd (evC (cx41 call) n41_37 s) (sqK (evC (cx41 call) n41_40)) := ev_seq _ _ (by kernel_rfl)
@[simp] theorem n41_35_eq (call : Calling) (env : Env) (h : Heap) : evC (cx41 call) n41_35 ⟨env, h⟩ = (bnd (pureV h (mBin .lss (env.get 88) (nat 4))) fun r0 => evC (cx41 call) n41_36 ⟨(Env.put env 89 r0.1), r0.2⟩) := (ev_seqreg 15 (cOps (cL n41_35)) (cR n41_35) (by kernel_rfl)).trans (by
  refine opsK_0 ?_
  refine opsK_p 89 (by kernel_rfl) (by kernel_rfl) (by kernel_rfl) (by kernel_rfl) fun r0 => ?_
  exact opsK_e (by kernel_rfl) (by kernel_rfl))
@[simp] theorem n41_34_eq (call : Calling) (s : St) : evC (cx41 call) n41_34 s = evLoop (evC (cx41 call) n41_35) s := ev_loop _ (by kernel_rfl)
@[simp] theorem n41_33_eq (call : Calling) (s : St) : evC (cx41 call) n41_33 s = bnd (evC (cx41 call) n41_34 s) fun r => some (inBlk 3 r) := ev_block 3 _ (by kernel_rfl)
@[simp] theorem n41_32_eq (call : Calling) (env : Env) (h : Heap) : evC (cx41 call) n41_32 ⟨env, h⟩ = ( evC (cx41 call) n41_33 ⟨(Env.put env 88 (nat 0)), h⟩) := (ev_seqreg 14 (cOps (cL n41_32)) (cR n41_32) (by kernel_rfl)).trans (by
  refine opsK_0 ?_
  refine opsK_t 88 (nat 0) (by kernel_rfl) (by kernel_rfl) (by kernel_rfl) (by kernel_rfl) ?_
  exact opsK_e (by kernel_rfl) (by kernel_rfl))
@[simp] theorem n41_21_eq (call : Calling) (s : St) : evC (cx41 call) n41_21 s = bnd (evC (cx41 call) n41_22 s) (sqK (evC (cx41 call) n41_32)) := ev_seq _ _ (by kernel_rfl)
@[simp] theorem n41_20_eq (call : Calling) (env : Env) (h : Heap) : evC (cx41 call) n41_20 ⟨env, h⟩ = (bnd (pureV h (mBin .sub (env.get 6) (nat 1))) fun r1 => bnd (pureV r1.2 (mIdxA (.arr 60 (.arr 4 (.int .u8))) (env.get 4) r1.1)) fun r2 => bnd (pureV r2.2 (mLoad (.arr 4 (.int .u8)) r2.1 r2.2)) fun r3 => bnd (mNew (.arr 4 (.int .u8)) (arr 4 fun _ => 0#8) r3.2) fun r4 => bnd (stU (.arr 4 (.int .u8)) r4.1 r3.1 r4.2) fun r5 => evC (cx41 call) n41_21 ⟨(Env.put env 7 r4.1), r5.2⟩) := (ev_seqreg 7 (cOps (cL n41_20)) (cR n41_20) (by kernel_rfl)).trans (by
  refine opsK_0 ?_
  refine opsK_t 24 (env.get 6) (by kernel_rfl) (by kernel_rfl) (by kernel_rfl) (by kernel_rfl) ?_
  refine opsK_p 25 (by kernel_rfl) (by kernel_rfl) (by kernel_rfl) (by kernel_rfl) fun r1 => ?_
  refine opsK_p 26 (by kernel_rfl) (by kernel_rfl) (by kernel_rfl) (by kernel_rfl) fun r2 => ?_
  refine opsK_p 27 (by kernel_rfl) (by kernel_rfl) (by kernel_rfl) (by kernel_rfl) fun r3 => ?_
  refine opsK_p 7 (by kernel_rfl) (by kernel_rfl) (by kernel_rfl) (by kernel_rfl) fun r4 => ?_
  refine opsK_n (by kernel_rfl) (by kernel_rfl) (by kernel_rfl) fun r5 => ?_
  exact opsK_e (by kernel_rfl) (by kernel_rfl))
@[simp] theorem n41_14_eq (call : Calling) (s : St) : evC (cx41 call) n41_14 s = bnd (evC (cx41 call) n41_15 s) (sqK (evC (cx41 call) n41_20)) := ev_seq _ _ (by kernel_rfl)
@[simp] theorem n41_13_eq (call : Calling) (env : Env) (h : Heap) : evC (cx41 call) n41_13 ⟨env, h⟩ = ( evC (cx41 call) n41_14 ⟨(Env.put env 6 (env.get 9)), h⟩) := (ev_seqreg 4 (cOps (cL n41_13)) (cR n41_13) (by kernel_rfl)).trans (by
  refine opsK_0 ?_
  refine opsK_t 11 (env.get 9) (by kernel_rfl) (by kernel_rfl) (by kernel_rfl) (by kernel_rfl) ?_
  refine opsK_t 6 (env.get 9) (by kernel_rfl) (by kernel_rfl) (by kernel_rfl) (by kernel_rfl) ?_
  exact opsK_e (by kernel_rfl) (by kernel_rfl))
@[simp] theorem n41_12_eq (call : Calling) (s : St) : evC (cx41 call) n41_12 s = bnd (evC (cx41 call) n41_13 s) fun r => some (inBlk 1 r) := ev_block 1 _ (by kernel_rfl)
@[simp] theorem n41_45_eq (call : Calling) (env : Env) (h : Heap) : evC (cx41 call) n41_45 ⟨env, h⟩ = (bnd (pureV h (mBin .add (env.get 9) (nat 1))) fun r0 => some (.nrm, ⟨(Env.put env 9 r0.1), r0.2⟩)) := (ev_reg 19 (cOps n41_45) (by kernel_rfl)).trans (by
  refine opsK_0 ?_
  refine opsK_p 106 (by kernel_rfl) (by kernel_rfl) (by kernel_rfl) (by kernel_rfl) fun r0 => ?_
  refine opsK_t 9 r0.1 (by kernel_rfl) (by kernel_rfl) (by kernel_rfl) (by kernel_rfl) ?_
  exact opsK_e (by kernel_rfl) (by kernel_rfl))
@[simp] theorem n41_11_eq (call : Calling) (s : St) : evC (cx41 call) n41_11 s = bnd (evC (cx41 call) n41_12 s) (sqK (evC (cx41 call) n41_45)) := ev_seq _ _ (by kernel_rfl)
@[simp] theorem n41_7_eq (call : Calling) (s : St) : evC (cx41 call) n41_7 s = bnd (evC (cx41 call) n41_8 s) (sqK (evC (cx41 call) n41_11)) := ev_seq _ _ (by kernel_rfl)
@[simp] theorem n41_6_eq (call : Calling) (env : Env) (h : Heap) : evC (cx41 call) n41_6 ⟨env, h⟩ = (bnd (pureV h (mBin .lss (env.get 9) (nat 60))) fun r0 => evC (cx41 call) n41_7 ⟨(Env.put env 10 r0.1), r0.2⟩) := (ev_seqreg 3 (cOps (cL n41_6)) (cR n41_6) (by kernel_rfl)).trans (by
  refine opsK_0 ?_
  refine opsK_p 10 (by kernel_rfl) (by kernel_rfl) (by kernel_rfl) (by kernel_rfl) fun r0 => ?_
  exact opsK_e (by kernel_rfl) (by kernel_rfl))
@[simp] theorem n41_5_eq (call : Calling) (s : St) : evC (cx41 call) n41_5 s = evLoop (evC (cx41 call) n41_6) s := ev_loop _ (by kernel_rfl)
@[simp] theorem n41_4_eq (call : Calling) (s : St) : evC (cx41 call) n41_4 s = bnd (evC (cx41 call) n41_5 s) fun r => some (inBlk 0 r) := ev_block 0 _ (by kernel_rfl)
@[simp] theorem n41_3_eq (call : Calling) (env : Env) (h : Heap) : evC (cx41 call) n41_3 ⟨env, h⟩ = ( evC (cx41 call) n41_4 ⟨(Env.put env 9 (nat 0)), h⟩) := (ev_seqreg 2 (cOps (cL n41_3)) (cR n41_3) (by kernel_rfl)).trans (by
  refine opsK_0 ?_
  refine opsK_t 9 (nat 0) (by kernel_rfl) (by kernel_rfl) (by kernel_rfl) (by kernel_rfl) ?_
  exact opsK_e (by kernel_rfl) (by kernel_rfl))
@[simp] theorem n41_47_eq (call : Calling) (s : St) : evC (cx41 call) n41_47 s = some (.ret, s) := ev_ret (by kernel_rfl)
@[simp] theorem n41_46_eq (call : Calling) (env : Env) (h : Heap) : evC (cx41 call) n41_46 ⟨env, h⟩ = (bnd (pureV h (mLoad (.arr 60 (.arr 4 (.int .u8))) (env.get 4) h)) fun r0 => bnd (stU (.arr 60 (.arr 4 (.int .u8))) (env.get 4) r0.1 r0.2) fun r1 => evC (cx41 call) n41_47 ⟨env, r1.2⟩) := (ev_seqreg 20 (cOps (cL n41_46)) (cR n41_46) (by kernel_rfl)).trans (by
  refine opsK_0 ?_
  refine opsK_p 107 (by kernel_rfl) (by kernel_rfl) (by kernel_rfl) (by kernel_rfl) fun r0 => ?_
  refine opsK_n (by kernel_rfl) (by kernel_rfl) (by kernel_rfl) fun r1 => ?_
  exact opsK_e (by kernel_rfl) (by kernel_rfl))
@[simp] theorem n41_2_eq (call : Calling) (s : St) : evC (cx41 call) n41_2 s = bnd (evC (cx41 call) n41_3 s) (sqK (evC (cx41 call) n41_46)) := ev_seq _ _ (by kernel_rfl)
@[simp] theorem n41_1_eq (call : Calling) (env : Env) (h : Heap) : evC (cx41 call) n41_1 ⟨env, h⟩ = ( evC (cx41 call) n41_2 ⟨(Env.put env 5 (u8 1#8)), h⟩) := (ev_seqreg 1 (cOps (cL n41_1)) (cR n41_1) (by kernel_rfl)).trans (by
  refine opsK_0 ?_
  refine opsK_t 5 (u8 1#8) (by kernel_rfl) (by kernel_rfl) (by kernel_rfl) (by kernel_rfl) ?_
  exact opsK_e (by kernel_rfl) (by kernel_rfl))
@[simp] theorem n41_0_eq (call : Calling) (env : Env) (h : Heap) : evC (cx41 call) n41_0 ⟨env, h⟩ = (bnd (mNew (.arr 32 (.int .u8)) (env.get 0) h) fun r0 => bnd (mNew (.arr 60 (.arr 4 (.int .u8))) (mat 60 4 fun _ _ => 0#8) r0.2) fun r1 => evC (cx41 call) n41_1 ⟨(Env.put (Env.put env 2 r0.1) 4 r1.1), r1.2⟩) := (ev_seqreg 0 (cOps (cL n41_0)) (cR n41_0) (by kernel_rfl)).trans (by
  refine opsK_0 ?_
  refine opsK_p 2 (by kernel_rfl) (by kernel_rfl) (by kernel_rfl) (by kernel_rfl) fun r0 => ?_
  refine opsK_p 4 (by kernel_rfl) (by kernel_rfl) (by kernel_rfl) (by kernel_rfl) fun r1 => ?_
  exact opsK_e (by kernel_rfl) (by kernel_rfl))
theorem b41 (call : Calling) (a0 a1 : AV) (h : Heap) : evBody (cx41 call) Try.f41 n41_0 [a0, a1] h = bnd (evC (cx41 call) n41_0 ⟨[(0, a0), (1, a1), (2, .junk), (3, .junk), (4, .junk), (5, .junk), (6, .junk), (7, .junk), (8, .junk), (9, .junk), (10, .junk), (13, .junk), (29, .junk), (30, .junk), (61, .junk), (88, .junk), (89, .junk)], h⟩) (retK fun s => bnd (bnd (mLoad (.arr 60 (.arr 4 (.int .u8))) (s.env.get 4) s.heap) fun v => bnd (some []) fun vs => some (v :: vs)) fun vs => some (oneOrTuple vs)) := by kernel_rfl
theorem fn41 : Try.prog.funcs[41]? = some Try.f41 := by kernel_rfl
theorem k41 : Callable Try.prog 41 := ⟨Try.f41, fn41, by kernel_rfl, by kernel_rfl⟩
theorem s41 {call : Calling} (hc : CallOK Try.prog call) {args : List AV} {h h' : Heap} {v : AV} (he : evBody (cx41 call) Try.f41 n41_0 args h = some (v, h')) : Spec Try.prog 41 args h v h' := body_sound (C := cx41 call) TT_ok hc mixed_ok fn41 (by kernel_rfl) (by kernel_rfl) he
end Go.Vab

/-
  The words of a key.
-/
namespace Go.Vab
open Go Go.Proofs

def rcon : Nat → BitVec 8
  | 0 => 1#8
  | k + 1 => mulB (rcon k) 2#8

def wd (key : Nat → BitVec 8) (i p : Nat) : BitVec 8 :=
  if h : i < 8 then key (4 * i + p)
  else wd key (i - 8) p ^^^
    (if i % 8 = 0 then subB (wd key (i - 1) ((p + 1) % 4)) ^^^ (if p = 0 then rcon (i / 8 - 1) else 0#8)
     else if i % 8 = 4 then subB (wd key (i - 1) p)
     else wd key (i - 1) p)
termination_by i

@[simp] theorem sbF_toNat (x : BitVec 8) : sbF x.toNat = subB x := by simp [sbF]

theorem wd_lt {key : Nat → BitVec 8} {i p : Nat} (h : i < 8) : wd key i p = key (4 * i + p) := by rw [wd, dif_pos h]
theorem wd_ge {key : Nat → BitVec 8} {i p : Nat} (h : 8 ≤ i) : wd key i p = wd key (i - 8) p ^^^
    (if i % 8 = 0 then subB (wd key (i - 1) ((p + 1) % 4)) ^^^ (if p = 0 then rcon (i / 8 - 1) else 0#8)
     else if i % 8 = 4 then subB (wd key (i - 1) p)
     else wd key (i - 1) p) := by rw [wd, dif_neg (by omega)]

def E41 (L : Nat) (it vt : Nat) (a0 : AV) (by_ : AV) (x6 x7 x8 x9 x10 x13 x29 x30 x61 x88 x89 : AV) : Env :=
  [(0, a0), (1, .ptr it vt [] (.arr 256 (.int .u8))), (2, .ptr L 0 [] (.arr 32 (.int .u8))), (3, .junk), (4, .ptr (L + 1) 0 [] (.arr 60 (.arr 4 (.int .u8)))), (5, by_), (6, x6), (7, x7), (8, x8), (9, x9), (10, x10), (13, x13), (29, x29), (30, x30), (61, x61), (88, x88), (89, x89)]

def H41 (h : Heap) (key : Nat → BitVec 8) (g : Nat → Nat → BitVec 8) (tr : Heap) : Heap := h ++ (⟨arr 32 key, 0, .own⟩ :: ⟨mat 60 4 g, 0, .own⟩ :: tr)

theorem inner41 (h tr : Heap) (key x : Nat → BitVec 8) (it vt i : Nat) (hi : 8 ≤ i) (hi' : i < 60) (g0 : Nat → Nat → BitVec 8) (a0 b x8 x9 x10 x13 x29 x30 x61 x89 : AV) :
    ∃ r, evLoop (evC (cx41 callA3) n41_35) ⟨E41 h.length it vt a0 b (nat i) (.ptr (h.length + (tr.length + 1 + 1)) 0 [] (.arr 4 (.int .u8))) x8 x9 x10 x13 x29 x30 x61 (nat 0) x89, H41 h key g0 (tr ++ [⟨arr 4 x, 0, .own⟩])⟩ = some r ∧
      ∃ y8 y88 y89 g, r = (.exit 3, ⟨E41 h.length it vt a0 b (nat i) (.ptr (h.length + (tr.length + 1 + 1)) 0 [] (.arr 4 (.int .u8))) y8 x9 x10 x13 x29 x30 x61 y88 y89, H41 h key g (tr ++ [⟨arr 4 x, 0, .own⟩])⟩) ∧
        (∀ j, j ≠ i → g j = g0 j) ∧ ∀ q, q < 4 → g i q = g0 (i - 8) q ^^^ x q := by
  refine evLoop_up 4 (fun p s => ∃ x8 x89 g, s = ⟨E41 h.length it vt a0 b (nat i) (.ptr (h.length + (tr.length + 1 + 1)) 0 [] (.arr 4 (.int .u8))) x8 x9 x10 x13 x29 x30 x61 (nat p) x89, H41 h key g (tr ++ [⟨arr 4 x, 0, .own⟩])⟩ ∧
      (∀ j, j ≠ i → g j = g0 j) ∧ ∀ q, q < p → g i q = g0 (i - 8) q ^^^ x q) ?_ ?_ ⟨_, _, _, rfl, fun _ _ => rfl, fun q hq => absurd hq (by omega)⟩
  · rintro p s hp ⟨x8, x89, g, rfl, hg, hq⟩
    have e1 : mBin .add (nat p) (nat 1) = some (nat (p + 1)) := nat_add (by omega)
    have e2 : mBin .sub (nat i) (nat 8) = some (nat (i - 8)) := nat_sub hi (by omega)
    have e3 : i - 8 < 60 := by omega
    refine ex_of (by conv => lhs; simp [E41, H41, Env.get, Env.put, hp, e1, e2, e3, hi']) ?_
    refine ⟨rfl, _, _, _, rfl, fun j hj => ?_, fun q hq' => ?_⟩
    · rw [upd_ne _ _ hj]; exact hg j hj
    · rw [upd_same]
      by_cases e : q = p
      · subst e; rw [upd_same, hg (i - 8) (by omega)]
      · rw [upd_ne _ _ e]; exact hq q (by omega)
  · rintro s ⟨x8, x89, g, rfl, hg, hq⟩
    refine ex_of (by conv => lhs; simp [E41, H41, Env.get, Env.put]) ?_
    exact ⟨by simp, _, _, _, _, rfl, hg, hq⟩

theorem walk41 (h : Heap) (key : Nat → BitVec 8) (it vt : Nat) (m : Mode) (ht : ∀ l, blkAt (h ++ l) it vt = some ⟨arr 256 sbF, vt, m⟩) :
    ∃ t, evBody (cx41 callA3) Try.f41 n41_0 [arr 32 key, .ptr it vt [] (.arr 256 (.int .u8))] h = some (mat 60 4 (wd key), h ++ t) := by
  rw [b41]
  have L : ∃ r, evLoop (evC (cx41 callA3) n41_6) ⟨E41 h.length it vt (arr 32 key) (u8 1#8) .junk .junk .junk (nat 0) .junk .junk .junk .junk .junk .junk .junk, H41 h key (fun _ _ => 0#8) []⟩ = some r ∧
      ∃ b y6 y7 y8 y9 y10 y13 y29 y30 y61 y88 y89 tr, r = (.exit 0, ⟨E41 h.length it vt (arr 32 key) b y6 y7 y8 y9 y10 y13 y29 y30 y61 y88 y89, H41 h key (wd key) tr⟩) := by
    refine evLoop_up 60 (fun i s => ∃ y6 y7 y8 y10 y13 y29 y30 y61 y88 y89 tr g, s = ⟨E41 h.length it vt (arr 32 key) (u8 (rcon ((i + 7) / 8 - 1))) y6 y7 y8 (nat i) y10 y13 y29 y30 y61 y88 y89, H41 h key g tr⟩ ∧
      ∀ j, j < i → ∀ p, p < 4 → g j p = wd key j p) ?_ ?_ ⟨_, _, _, _, _, _, _, _, _, _, _, _, rfl, fun _ hj => absurd hj (by omega)⟩
    · rintro i s hi ⟨y6, y7, y8, y10, y13, y29, y30, y61, y88, y89, tr, g, rfl, hg⟩
      have e1 : mBin .add (nat i) (nat 1) = some (nat (i + 1)) := nat_add (by omega)
      by_cases h8 : i < 8
      · have e2 : mBin .mul (nat 4) (nat i) = some (nat (4 * i)) := nat_mul (by omega)
        have e3 : mBin .add (nat (4 * i)) (nat 4) = some (nat (4 * i + 4)) := nat_add (by omega)
        have e4 : 4 * i + 4 ≤ 32 := by omega
        have e5 : 4 * i + 4 - 4 * i = 4 := by omega
        have e6 : (i + 1 + 7) / 8 - 1 = 0 ∧ (i + 7) / 8 - 1 = 0 := by omega
        refine ex_of (by conv => lhs; simp [E41, H41, Env.get, Env.put, hi, h8, e1, e2, e3, e4, e5]) ?_
        refine ⟨rfl, _, _, _, _, _, _, _, _, _, _, _, _, by rw [e6.1, e6.2]; rfl, fun j hj p hp => ?_⟩
        by_cases hji : j = i
        · subst hji; rw [upd_same, wd_lt h8]
        · rw [upd_ne _ _ hji]; exact hg j (by omega) p hp
      · have e2 : mBin .sub (nat i) (nat 1) = some (nat (i - 1)) := nat_sub (by omega) (by omega)
        have e3 : i - 1 < 60 := by omega
        have e4 : mBin .rem (nat i) (nat 8) = some (nat (i % 8)) := nat_rem (by omega)
        have fin : ∀ (x : Nat → BitVec 8) (g' : Nat → Nat → BitVec 8), (∀ j, j ≠ i → g' j = g j) → (∀ q, q < 4 → g' i q = g (i - 8) q ^^^ x q) →
            (∀ q, q < 4 → x q = (if i % 8 = 0 then subB (wd key (i - 1) ((q + 1) % 4)) ^^^ (if q = 0 then rcon (i / 8 - 1) else 0#8) else if i % 8 = 4 then subB (wd key (i - 1) q) else wd key (i - 1) q)) →
            ∀ j, j < i + 1 → ∀ p, p < 4 → g' j p = wd key j p := by
          intro x g' h1 h2 h3 j hj p hp
          by_cases hji : j = i
          · subst hji
            rw [h2 p hp, wd_ge (by omega), h3 p hp, hg (j - 8) (by omega) p hp]
          · rw [h1 j hji]; exact hg j (by omega) p hp
        have hx : ∀ q, q < 4 → g (i - 1) q = wd key (i - 1) q := hg (i - 1) (by omega)
        by_cases h0 : i % 8 = 0
        · obtain ⟨r, hr, z8, z88, z89, g', rfl, hg1, hg2⟩ := inner41 h tr key (upd (upd (upd (upd (fun _ => 0#8) 0 (subB (g (i - 1) 1) ^^^ rcon ((i + 7) / 8 - 1))) 1 (subB (g (i - 1) 2))) 2 (subB (g (i - 1) 3))) 3 (subB (g (i - 1) 0))) it vt i (by omega) hi g (arr 32 key) (u8 (mulB (rcon ((i + 7) / 8 - 1)) 2#8)) y8 (nat i) (.bool true) (.bool false) (nat 0) (.bool true) y61 y89
          simp only [E41, H41] at hr
          refine ex_of (by conv => lhs; simp [E41, H41, Env.get, Env.put, hi, h8, e1, e2, e3, e4, h0, ht, fillRow, hr]) ?_
          have er : rcon ((i + 1 + 7) / 8 - 1) = mulB (rcon ((i + 7) / 8 - 1)) 2#8 := by
            rw [show (i + 1 + 7) / 8 - 1 = ((i + 7) / 8 - 1) + 1 by omega]; rfl
          refine ⟨rfl, _, _, _, _, _, _, _, _, _, _, _, _, by rw [er]; rfl, fin _ g' hg1 hg2 fun q hq => ?_⟩
          rw [if_pos h0, ← hx _ (Nat.mod_lt _ (by decide)), show i / 8 - 1 = (i + 7) / 8 - 1 by omega]
          match q, hq with
          | 0, _ => simp [upd]
          | 1, _ => simp [upd]
          | 2, _ => simp [upd]
          | 3, _ => simp [upd]
        have er : (i + 1 + 7) / 8 - 1 = (i + 7) / 8 - 1 := by omega
        by_cases h4 : i % 8 = 4
        · obtain ⟨r, hr, z8, z88, z89, g', rfl, hg1, hg2⟩ := inner41 h tr key (upd (upd (upd (upd (fun _ => 0#8) 0 (subB (g (i - 1) 0))) 1 (subB (g (i - 1) 1))) 2 (subB (g (i - 1) 2))) 3 (subB (g (i - 1) 3))) it vt i (by omega) hi g (arr 32 key) (u8 (rcon ((i + 7) / 8 - 1))) y8 (nat i) (.bool true) (.bool false) (nat 4) (.bool false) (.bool true) y89
          simp only [E41, H41] at hr
          refine ex_of (by conv => lhs; simp [E41, H41, Env.get, Env.put, hi, h8, e1, e2, e3, e4, h4, ht, fillRow, hr]) ?_
          refine ⟨rfl, _, _, _, _, _, _, _, _, _, _, _, _, by rw [er]; rfl, fin _ g' hg1 hg2 fun q hq => ?_⟩
          rw [if_neg h0, if_pos h4, ← hx _ hq]
          match q, hq with
          | 0, _ => simp [upd]
          | 1, _ => simp [upd]
          | 2, _ => simp [upd]
          | 3, _ => simp [upd]
        · obtain ⟨r, hr, z8, z88, z89, g', rfl, hg1, hg2⟩ := inner41 h tr key (g (i - 1)) it vt i (by omega) hi g (arr 32 key) (u8 (rcon ((i + 7) / 8 - 1))) y8 (nat i) (.bool true) (.bool false) (nat (i % 8)) (.bool false) (.bool false) y89
          simp only [E41, H41] at hr
          refine ex_of (by conv => lhs; simp [E41, H41, Env.get, Env.put, hi, h8, e1, e2, e3, e4, h0, h4, ht, fillRow, hr]) ?_
          refine ⟨rfl, _, _, _, _, _, _, _, _, _, _, _, _, by rw [er]; rfl, fin _ g' hg1 hg2 fun q hq => ?_⟩
          rw [if_neg h0, if_neg h4, ← hx _ hq]
    · rintro s ⟨y6, y7, y8, y10, y13, y29, y30, y61, y88, y89, tr, g, rfl, hg⟩
      refine ex_of (by conv => lhs; simp [E41, H41, Env.get, Env.put]) ?_
      rw [mat_congr hg]
      exact ⟨by simp, _, _, _, _, _, _, _, _, _, _, _, _, tr, rfl⟩
  obtain ⟨r, hr, b, y6, y7, y8, y9, y10, y13, y29, y30, y61, y88, y89, tr, rfl⟩ := L
  refine ⟨⟨arr 32 key, 0, .own⟩ :: ⟨mat 60 4 (wd key), 0, .own⟩ :: tr, ?_⟩
  simp only [E41, H41] at hr
  simp [E41, H41, Env.get, Env.put, hr, oneOrTuple]

end Go.Vab

/-
  The words of a key: the contract.
-/
namespace Go.Vab
open Go Go.Proofs

@[simp] theorem arr_under (n k : Nat) (g : Nat → BitVec 8) : (arr n g).under k = true := rfl
theorem mat_under (m n k : Nat) (g : Nat → Nat → BitVec 8) : (mat m n g).under k = true := by
  simp only [mat, AV.under]
  induction List.range m with
  | nil => rfl
  | cons a l ih => simp [AV.unders, ih]

theorem wd_congr {a b : Nat → BitVec 8} (h : ∀ i, i < 32 → a i = b i) : ∀ i p, p < 4 → wd a i p = wd b i p := by
  intro i
  induction i using Nat.strongRecOn with
  | _ i ih =>
    intro p hp
    by_cases h8 : i < 8
    · rw [wd_lt h8, wd_lt h8]; exact h _ (by omega)
    · rw [wd_ge (key := a) (i := i) (by omega), wd_ge (key := b) (i := i) (by omega), ih (i - 8) (by omega) p hp, ih (i - 1) (by omega) p hp, ih (i - 1) (by omega) _ (Nat.mod_lt _ (by decide))]

noncomputable def c41 := conC (fun x : (Nat → BitVec 8) × Nat × Nat => [arr 32 x.1, .ptr x.2.1 x.2.2 [] (.arr 256 (.int .u8))]) (fun x h => ∃ m, blkAt h x.2.1 x.2.2 = some ⟨arr 256 sbF, x.2.2, m⟩) (fun x h => (mat 60 4 (wd x.1), h))
noncomputable def callA4 : Calling := addC callA3 41 c41
theorem c41_eq (key : Nat → BitVec 8) (it vt : Nat) (h : Heap) (ht : ∃ m, blkAt h it vt = some ⟨arr 256 sbF, vt, m⟩) : c41 [arr 32 key, .ptr it vt [] (.arr 256 (.int .u8))] h = some (mat 60 4 (wd key), h) :=
  conC_eq (enc := fun x : (Nat → BitVec 8) × Nat × Nat => [arr 32 x.1, .ptr x.2.1 x.2.2 [] (.arr 256 (.int .u8))]) (a := (key, it, vt)) (f := fun x h => (mat 60 4 (wd x.1), h))
    (fun x y h e => by
      have e1 := arr_inj.1 (List.cons.inj e).1
      simp only [Prod.mk.injEq, and_true]
      exact mat_congr fun i _ p hp => wd_congr e1 i p hp) ht
theorem callA4_ok : CallOK Try.prog callA4 := addC_con callA3_ok k41 fun x h ⟨m, hm⟩ => by
  obtain ⟨t, ht⟩ := walk41 h x.1 x.2.1 x.2.2 m fun l => blkAt_app hm l
  exact (s41 callA3_ok ht).drop0 t (mat_under _ _ _ _)
@[simp] theorem callA4_14 (a b : BitVec 8) (h : Heap) : callA4 14 [u8 a, u8 b] h = some (u8 (mulB a b), h) := by simp [callA4, addC]
@[simp] theorem callA4_still14 (a b : BitVec 8) (h : Heap) : still callA4 14 [u8 a, u8 b] h = some (u8 (mulB a b), h) := still_of fun t => by simp
@[simp] theorem callA4_16 (a : BitVec 8) (h : Heap) : callA4 16 [u8 a] h = some (u8 (subB a), h) := by simp [callA4, addC]
@[simp] theorem callA4_40 (h : Heap) : callA4 40 [] h = some (arr 256 sbF, h) := by simp [callA4, addC]
theorem callA4_41 (key : Nat → BitVec 8) (it vt : Nat) (h : Heap) (ht : ∃ m, blkAt h it vt = some ⟨arr 256 sbF, vt, m⟩) : callA4 41 [arr 32 key, .ptr it vt [] (.arr 256 (.int .u8))] h = some (mat 60 4 (wd key), h) := by
  simp only [callA4, addC, if_true]; exact c41_eq key it vt h ht

end Go.Vab

/- How the evaluator reads the functions of a seat. Printed by wip/tools/gen.py (own work). -/
namespace Go.Vab
open Go Go.Proofs
/-! vestry/aes.Encrypt -/
noncomputable def cx19 (call : Calling) : Ctx := ⟨call, TT, 112, [14, 15, 16, 17, 18, 21, 22, 23, 24, 25, 26, 27, 28, 29, 30, 31, 32, 33, 34, 35, 36, 37, 38, 40, 43, 44, 45, 46, 47, 48, 49, 50, 51, 52, 53, 54, 55, 56, 57, 59, 60, 62, 63, 64, 65, 66, 67, 68, 69, 70, 71, 72, 73, 74, 75, 76, 77, 78, 79, 80, 81, 84, 85, 86, 87, 88, 89, 90, 91, 92, 93, 94, 95, 96, 97, 98, 99, 100, 101, 102, 103, 104, 105, 106, 107, 108, 109, 110, 111]⟩
noncomputable def n19_0 : Code := bodyOf Try.f19
noncomputable def n19_1 : Code := cR n19_0
noncomputable def n19_2 : Code := cR n19_1
noncomputable def n19_3 : Code := cR n19_2
noncomputable def n19_4 : Code := cR n19_3
noncomputable def n19_5 : Code := cB n19_4
noncomputable def n19_6 : Code := cB n19_5
noncomputable def n19_7 : Code := cL n19_6
noncomputable def n19_8 : Code := cB n19_7
noncomputable def n19_9 : Code := cL n19_8
noncomputable def n19_10 : Code := cR n19_9
noncomputable def n19_11 : Code := cB n19_10
noncomputable def n19_12 : Code := cB n19_11
noncomputable def n19_13 : Code := cR n19_12
noncomputable def n19_14 : Code := cL n19_13
noncomputable def n19_15 : Code := cL n19_14
noncomputable def n19_16 : Code := cR n19_14
noncomputable def n19_17 : Code := cR n19_13
noncomputable def n19_18 : Code := cL n19_17
noncomputable def n19_19 : Code := cB n19_18
noncomputable def n19_20 : Code := cR n19_19
noncomputable def n19_21 : Code := cR n19_17
noncomputable def n19_22 : Code := cR n19_8
noncomputable def n19_23 : Code := cL n19_22
noncomputable def n19_24 : Code := cR n19_23
noncomputable def n19_25 : Code := cL n19_24
noncomputable def n19_26 : Code := cR n19_25
noncomputable def n19_27 : Code := cR n19_24
noncomputable def n19_28 : Code := cR n19_22
noncomputable def n19_29 : Code := cR n19_28
noncomputable def n19_30 : Code := cL n19_29
noncomputable def n19_31 : Code := cR n19_30
noncomputable def n19_32 : Code := cB n19_31
noncomputable def n19_33 : Code := cB n19_32
noncomputable def n19_34 : Code := cR n19_33
noncomputable def n19_35 : Code := cL n19_34
noncomputable def n19_36 : Code := cL n19_35
noncomputable def n19_37 : Code := cR n19_35
noncomputable def n19_38 : Code := cR n19_34
noncomputable def n19_39 : Code := cL n19_38
noncomputable def n19_40 : Code := cB n19_39
noncomputable def n19_41 : Code := cR n19_40
noncomputable def n19_42 : Code := cR n19_38
noncomputable def n19_43 : Code := cR n19_29
noncomputable def n19_44 : Code := cL n19_43
noncomputable def n19_45 : Code := cR n19_44
noncomputable def n19_46 : Code := cL n19_45
noncomputable def n19_47 : Code := cR n19_46
noncomputable def n19_48 : Code := cR n19_45
noncomputable def n19_49 : Code := cR n19_43
noncomputable def n19_50 : Code := cR n19_49
noncomputable def n19_51 : Code := cB n19_50
noncomputable def n19_52 : Code := cB n19_51
noncomputable def n19_53 : Code := cL n19_52
noncomputable def n19_54 : Code := cR n19_53
noncomputable def n19_55 : Code := cL n19_54
noncomputable def n19_56 : Code := cR n19_54
noncomputable def n19_57 : Code := cR n19_52
noncomputable def n19_58 : Code := cL n19_57
noncomputable def n19_59 : Code := cB n19_58
noncomputable def n19_60 : Code := cR n19_59
noncomputable def n19_61 : Code := cR n19_60
noncomputable def n19_62 : Code := cB n19_61
noncomputable def n19_63 : Code := cB n19_62
noncomputable def n19_64 : Code := cR n19_63
noncomputable def n19_65 : Code := cL n19_64
noncomputable def n19_66 : Code := cL n19_65
noncomputable def n19_67 : Code := cR n19_65
noncomputable def n19_68 : Code := cR n19_64
noncomputable def n19_69 : Code := cL n19_68
noncomputable def n19_70 : Code := cB n19_69
noncomputable def n19_71 : Code := cR n19_70
noncomputable def n19_72 : Code := cR n19_68
noncomputable def n19_73 : Code := cR n19_57
noncomputable def n19_74 : Code := cR n19_6
@[simp] theorem n19_15_eq (call : Calling) (s : St) : evC (cx19 call) n19_15 s = some (.nrm, s) := ev_skip (by kernel_rfl)
@[simp] theorem n19_16_eq (call : Calling) (s : St) : evC (cx19 call) n19_16 s = some (.exit 2, s) := ev_exit 2 (by kernel_rfl)
@[simp] theorem n19_14_eq (call : Calling) (s : St) : evC (cx19 call) n19_14 s = cnd (s.env.get 20) (evC (cx19 call) n19_15 s) (evC (cx19 call) n19_16 s) := ev_cond 20 _ _ (by kernel_rfl)
theorem n19_20_ok : drawOk (cOps n19_20).toList = true := by kernel_rfl
@[simp] theorem n19_20_eq (call : Calling) (env : Env) (h : Heap) : evC (cx19 call) n19_20 ⟨env, h⟩ = (bnd (pureV h (mIdxA (.arr 16 (.int .u8)) (env.get 3) (env.get 8))) fun r1 => bnd (pureV r1.2 (mLoad (.int .u8) r1.1 r1.2)) fun r2 => bnd (pureV r2.2 (mBin .mul (nat 4) (env.get 7))) fun r4 => bnd (pureV r4.2 (mBin .quo (env.get 8) (nat 4))) fun r6 => bnd (pureV r6.2 (mBin .add r4.1 r6.1)) fun r7 => bnd (pureV r7.2 (mBin .rem (env.get 8) (nat 4))) fun r9 => bnd (pureV r9.2 (mIdxA (.arr 60 (.arr 4 (.int .u8))) (env.get 6) r7.1)) fun r10 => bnd (pureV r10.2 (mIdxA (.arr 4 (.int .u8)) r10.1 r9.1)) fun r11 => bnd (pureV r11.2 (mLoad (.int .u8) r11.1 r11.2)) fun r12 => bnd (pureV r12.2 (mBin .xor r2.1 r12.1)) fun r13 => bnd (pureV r13.2 (mIdxA (.arr 16 (.int .u8)) (env.get 3) (env.get 8))) fun r14 => bnd (stU (.int .u8) r14.1 r13.1 r14.2) fun r15 => some (.nrm, ⟨env, r15.2⟩)) := (ev_draw 8 (cOps n19_20) (by kernel_rfl) n19_20_ok).trans (by
  refine opsK_0 ?_
  refine opsK_t 22 (env.get 8) (by kernel_rfl) (by kernel_rfl) (by kernel_rfl) (by kernel_rfl) ?_
  refine opsK_p 23 (by kernel_rfl) (by kernel_rfl) (by kernel_rfl) (by kernel_rfl) fun r1 => ?_
  refine opsK_p 24 (by kernel_rfl) (by kernel_rfl) (by kernel_rfl) (by kernel_rfl) fun r2 => ?_
  refine opsK_t 25 (env.get 7) (by kernel_rfl) (by kernel_rfl) (by kernel_rfl) (by kernel_rfl) ?_
  refine opsK_p 26 (by kernel_rfl) (by kernel_rfl) (by kernel_rfl) (by kernel_rfl) fun r4 => ?_
  refine opsK_t 27 (env.get 8) (by kernel_rfl) (by kernel_rfl) (by kernel_rfl) (by kernel_rfl) ?_
  refine opsK_p 28 (by kernel_rfl) (by kernel_rfl) (by kernel_rfl) (by kernel_rfl) fun r6 => ?_
  refine opsK_p 29 (by kernel_rfl) (by kernel_rfl) (by kernel_rfl) (by kernel_rfl) fun r7 => ?_
  refine opsK_t 30 (env.get 8) (by kernel_rfl) (by kernel_rfl) (by kernel_rfl) (by kernel_rfl) ?_
  refine opsK_p 31 (by kernel_rfl) (by kernel_rfl) (by kernel_rfl) (by kernel_rfl) fun r9 => ?_
  refine opsK_p 32 (by kernel_rfl) (by kernel_rfl) (by kernel_rfl) (by kernel_rfl) fun r10 => ?_
  refine opsK_p 33 (by kernel_rfl) (by kernel_rfl) (by kernel_rfl) (by kernel_rfl) fun r11 => ?_
  refine opsK_p 34 (by kernel_rfl) (by kernel_rfl) (by kernel_rfl) (by kernel_rfl) fun r12 => ?_
  refine opsK_p 35 (by kernel_rfl) (by kernel_rfl) (by kernel_rfl) (by kernel_rfl) fun r13 => ?_
  refine opsK_p 36 (by kernel_rfl) (by kernel_rfl) (by kernel_rfl) (by kernel_rfl) fun r14 => ?_
  refine opsK_n (by kernel_rfl) (by kernel_rfl) (by kernel_rfl) fun r15 => ?_
  exact opsK_e (by kernel_rfl) (by kernel_rfl))
@[simp] theorem n19_19_eq (call : Calling) (env : Env) (h : Heap) : evC (cx19 call) n19_19 ⟨env, h⟩ = ( evC (cx19 call) n19_20 ⟨(Env.put env 8 (env.get 19)), h⟩) := (ev_seqreg 7 (cOps (cL n19_19)) (cR n19_19) (by kernel_rfl)).trans (by
  refine opsK_0 ?_
  refine opsK_t 21 (env.get 19) (by kernel_rfl) (by kernel_rfl) (by kernel_rfl) (by kernel_rfl) ?_
  refine opsK_t 8 (env.get 19) (by kernel_rfl) (by kernel_rfl) (by kernel_rfl) (by kernel_rfl) ?_
  exact opsK_e (by kernel_rfl) (by kernel_rfl))
@[simp] theorem n19_18_eq (call : Calling) (s : St) : evC (cx19 call) n19_18 s = bnd (evC (cx19 call) n19_19 s) fun r => some (inBlk 3 r) := ev_block 3 _ (by kernel_rfl)
@[simp] theorem n19_21_eq (call : Calling) (env : Env) (h : Heap) : evC (cx19 call) n19_21 ⟨env, h⟩ = (bnd (pureV h (mBin .add (env.get 19) (nat 1))) fun r0 => some (.nrm, ⟨(Env.put env 19 r0.1), r0.2⟩)) := (ev_reg 9 (cOps n19_21) (by kernel_rfl)).trans (by
  refine opsK_0 ?_
  refine opsK_p 37 (by kernel_rfl) (by kernel_rfl) (by kernel_rfl) (by kernel_rfl) fun r0 => ?_
  refine opsK_t 19 r0.1 (by kernel_rfl) (by kernel_rfl) (by kernel_rfl) (by kernel_rfl) ?_
  exact opsK_e (by kernel_rfl) (by kernel_rfl))
@[simp] theorem n19_17_eq (call : Calling) (s : St) : evC (cx19 call) n19_17 s = bnd (evC (cx19 call) n19_18 s) (sqK (evC (cx19 call) n19_21)) := ev_seq _ _ (by kernel_rfl)
@[simp] theorem n19_13_eq (call : Calling) (s : St) : evC (cx19 call) n19_13 s = bnd (evC (cx19 call) n19_14 s) (sqK (evC (cx19 call) n19_17)) := ev_seq _ _ (by kernel_rfl)
@[simp] theorem n19_12_eq (call : Calling) (env : Env) (h : Heap) : evC (cx19 call) n19_12 ⟨env, h⟩ = (bnd (pureV h (mBin .lss (env.get 19) (nat 16))) fun r0 => evC (cx19 call) n19_13 ⟨(Env.put env 20 r0.1), r0.2⟩) := (ev_seqreg 6 (cOps (cL n19_12)) (cR n19_12) (by kernel_rfl)).trans (by
  refine opsK_0 ?_
  refine opsK_p 20 (by kernel_rfl) (by kernel_rfl) (by kernel_rfl) (by kernel_rfl) fun r0 => ?_
  exact opsK_e (by kernel_rfl) (by kernel_rfl))
@[simp] theorem n19_11_eq (call : Calling) (s : St) : evC (cx19 call) n19_11 s = evLoop (evC (cx19 call) n19_12) s := ev_loop _ (by kernel_rfl)
@[simp] theorem n19_10_eq (call : Calling) (s : St) : evC (cx19 call) n19_10 s = bnd (evC (cx19 call) n19_11 s) fun r => some (inBlk 2 r) := ev_block 2 _ (by kernel_rfl)
@[simp] theorem n19_9_eq (call : Calling) (env : Env) (h : Heap) : evC (cx19 call) n19_9 ⟨env, h⟩ = ( evC (cx19 call) n19_10 ⟨(Env.put env 19 (nat 0)), h⟩) := (ev_seqreg 5 (cOps (cL n19_9)) (cR n19_9) (by kernel_rfl)).trans (by
  refine opsK_0 ?_
  refine opsK_t 19 (nat 0) (by kernel_rfl) (by kernel_rfl) (by kernel_rfl) (by kernel_rfl) ?_
  exact opsK_e (by kernel_rfl) (by kernel_rfl))
@[simp] theorem n19_26_eq (call : Calling) (s : St) : evC (cx19 call) n19_26 s = some (.ret, s) := ev_ret (by kernel_rfl)
@[simp] theorem n19_25_eq (call : Calling) (env : Env) (h : Heap) : evC (cx19 call) n19_25 ⟨env, h⟩ = (bnd (pureV h (mLoad (.arr 16 (.int .u8)) (env.get 3) h)) fun r0 => bnd (stU (.arr 16 (.int .u8)) (env.get 4) r0.1 r0.2) fun r1 => evC (cx19 call) n19_26 ⟨env, r1.2⟩) := (ev_seqreg 11 (cOps (cL n19_25)) (cR n19_25) (by kernel_rfl)).trans (by
  refine opsK_0 ?_
  refine opsK_p 40 (by kernel_rfl) (by kernel_rfl) (by kernel_rfl) (by kernel_rfl) fun r0 => ?_
  refine opsK_n (by kernel_rfl) (by kernel_rfl) (by kernel_rfl) fun r1 => ?_
  exact opsK_e (by kernel_rfl) (by kernel_rfl))
@[simp] theorem n19_27_eq (call : Calling) (s : St) : evC (cx19 call) n19_27 s = some (.nrm, s) := ev_skip (by kernel_rfl)
@[simp] theorem n19_24_eq (call : Calling) (s : St) : evC (cx19 call) n19_24 s = cnd (s.env.get 39) (evC (cx19 call) n19_25 s) (evC (cx19 call) n19_27 s) := ev_cond 39 _ _ (by kernel_rfl)
@[simp] theorem n19_23_eq (call : Calling) (env : Env) (h : Heap) : evC (cx19 call) n19_23 ⟨env, h⟩ = (bnd (pureV h (mBin .eql (env.get 7) (nat 14))) fun r1 => evC (cx19 call) n19_24 ⟨(Env.put env 39 r1.1), r1.2⟩) := (ev_seqreg 10 (cOps (cL n19_23)) (cR n19_23) (by kernel_rfl)).trans (by
  refine opsK_0 ?_
  refine opsK_t 38 (env.get 7) (by kernel_rfl) (by kernel_rfl) (by kernel_rfl) (by kernel_rfl) ?_
  refine opsK_p 39 (by kernel_rfl) (by kernel_rfl) (by kernel_rfl) (by kernel_rfl) fun r1 => ?_
  exact opsK_e (by kernel_rfl) (by kernel_rfl))
@[simp] theorem n19_36_eq (call : Calling) (s : St) : evC (cx19 call) n19_36 s = some (.nrm, s) := ev_skip (by kernel_rfl)
@[simp] theorem n19_37_eq (call : Calling) (s : St) : evC (cx19 call) n19_37 s = some (.exit 4, s) := ev_exit 4 (by kernel_rfl)
@[simp] theorem n19_35_eq (call : Calling) (s : St) : evC (cx19 call) n19_35 s = cnd (s.env.get 42) (evC (cx19 call) n19_36 s) (evC (cx19 call) n19_37 s) := ev_cond 42 _ _ (by kernel_rfl)
@[simp] theorem n19_41_eq (call : Calling) (env : Env) (h : Heap) : evC (cx19 call) n19_41 ⟨env, h⟩ = (bnd (pureV h (mBin .rem (env.get 10) (nat 4))) fun r3 => bnd (pureV r3.2 (mBin .mul (nat 4) r3.1)) fun r4 => bnd (pureV r4.2 (mBin .add (env.get 10) r4.1)) fun r5 => bnd (pureV r5.2 (mBin .rem r5.1 (nat 16))) fun r6 => bnd (pureV r6.2 (mIdxA (.arr 16 (.int .u8)) (env.get 3) r6.1)) fun r7 => bnd (pureV r7.2 (mLoad (.int .u8) r7.1 r7.2)) fun r8 => bnd (pureV r8.2 (mIdxA (.arr 256 (.int .u8)) (env.get 5) r8.1)) fun r9 => bnd (pureV r9.2 (mLoad (.int .u8) r9.1 r9.2)) fun r10 => bnd (pureV r10.2 (mIdxA (.arr 16 (.int .u8)) (env.get 9) (env.get 10))) fun r11 => bnd (stU (.int .u8) r11.1 r10.1 r11.2) fun r12 => some (.nrm, ⟨env, r12.2⟩)) := (ev_reg 16 (cOps n19_41) (by kernel_rfl)).trans (by
  refine opsK_0 ?_
  refine opsK_t 44 (env.get 10) (by kernel_rfl) (by kernel_rfl) (by kernel_rfl) (by kernel_rfl) ?_
  refine opsK_t 45 (env.get 10) (by kernel_rfl) (by kernel_rfl) (by kernel_rfl) (by kernel_rfl) ?_
  refine opsK_t 46 (env.get 10) (by kernel_rfl) (by kernel_rfl) (by kernel_rfl) (by kernel_rfl) ?_
  refine opsK_p 47 (by kernel_rfl) (by kernel_rfl) (by kernel_rfl) (by kernel_rfl) fun r3 => ?_
  refine opsK_p 48 (by kernel_rfl) (by kernel_rfl) (by kernel_rfl) (by kernel_rfl) fun r4 => ?_
  refine opsK_p 49 (by kernel_rfl) (by kernel_rfl) (by kernel_rfl) (by kernel_rfl) fun r5 => ?_
  refine opsK_p 50 (by kernel_rfl) (by kernel_rfl) (by kernel_rfl) (by kernel_rfl) fun r6 => ?_
  refine opsK_p 51 (by kernel_rfl) (by kernel_rfl) (by kernel_rfl) (by kernel_rfl) fun r7 => ?_
  refine opsK_p 52 (by kernel_rfl) (by kernel_rfl) (by kernel_rfl) (by kernel_rfl) fun r8 => ?_
  refine opsK_p 53 (by kernel_rfl) (by kernel_rfl) (by kernel_rfl) (by kernel_rfl) fun r9 => ?_
  refine opsK_p 54 (by kernel_rfl) (by kernel_rfl) (by kernel_rfl) (by kernel_rfl) fun r10 => ?_
  refine opsK_p 55 (by kernel_rfl) (by kernel_rfl) (by kernel_rfl) (by kernel_rfl) fun r11 => ?_
  refine opsK_n (by kernel_rfl) (by kernel_rfl) (by kernel_rfl) fun r12 => ?_
  exact opsK_e (by kernel_rfl) (by kernel_rfl))
@[simp] theorem n19_40_eq (call : Calling) (env : Env) (h : Heap) : evC (cx19 call) n19_40 ⟨env, h⟩ = ( evC (cx19 call) n19_41 ⟨(Env.put env 10 (env.get 41)), h⟩) := (ev_seqreg 15 (cOps (cL n19_40)) (cR n19_40) (by kernel_rfl)).trans (by
  refine opsK_0 ?_
  refine opsK_t 43 (env.get 41) (by kernel_rfl) (by kernel_rfl) (by kernel_rfl) (by kernel_rfl) ?_
  refine opsK_t 10 (env.get 41) (by kernel_rfl) (by kernel_rfl) (by kernel_rfl) (by kernel_rfl) ?_
  exact opsK_e (by kernel_rfl) (by kernel_rfl))
@[simp] theorem n19_39_eq (call : Calling) (s : St) : evC (cx19 call) n19_39 s = bnd (evC (cx19 call) n19_40 s) fun r => some (inBlk 5 r) := ev_block 5 _ (by kernel_rfl)
@[simp] theorem n19_42_eq (call : Calling) (env : Env) (h : Heap) : evC (cx19 call) n19_42 ⟨env, h⟩ = (bnd (pureV h (mBin .add (env.get 41) (nat 1))) fun r0 => some (.nrm, ⟨(Env.put env 41 r0.1), r0.2⟩)) := (ev_reg 17 (cOps n19_42) (by kernel_rfl)).trans (by
  refine opsK_0 ?_
  refine opsK_p 56 (by kernel_rfl) (by kernel_rfl) (by kernel_rfl) (by kernel_rfl) fun r0 => ?_
  refine opsK_t 41 r0.1 (by kernel_rfl) (by kernel_rfl) (by kernel_rfl) (by kernel_rfl) ?_
  exact opsK_e (by kernel_rfl) (by kernel_rfl))
@[simp] theorem n19_38_eq (call : Calling) (s : St) : evC (cx19 call) n19_38 s = bnd (evC (cx19 call) n19_39 s) (sqK (evC (cx19 call) n19_42)) := ev_seq _ _ (by kernel_rfl)
@[simp] theorem n19_34_eq (call : Calling) (s : St) : evC (cx19 call) n19_34 s = bnd (evC (cx19 call) n19_35 s) (sqK (evC (cx19 call) n19_38)) := ev_seq _ _ (by kernel_rfl)
@[simp] theorem n19_33_eq (call : Calling) (env : Env) (h : Heap) : evC (cx19 call) n19_33 ⟨env, h⟩ = (bnd (pureV h (mBin .lss (env.get 41) (nat 16))) fun r0 => evC (cx19 call) n19_34 ⟨(Env.put env 42 r0.1), r0.2⟩) := (ev_seqreg 14 (cOps (cL n19_33)) (cR n19_33) (by kernel_rfl)).trans (by
  refine opsK_0 ?_
  refine opsK_p 42 (by kernel_rfl) (by kernel_rfl) (by kernel_rfl) (by kernel_rfl) fun r0 => ?_
  exact opsK_e (by kernel_rfl) (by kernel_rfl))
@[simp] theorem n19_32_eq (call : Calling) (s : St) : evC (cx19 call) n19_32 s = evLoop (evC (cx19 call) n19_33) s := ev_loop _ (by kernel_rfl)
@[simp] theorem n19_31_eq (call : Calling) (s : St) : evC (cx19 call) n19_31 s = bnd (evC (cx19 call) n19_32 s) fun r => some (inBlk 4 r) := ev_block 4 _ (by kernel_rfl)
@[simp] theorem n19_30_eq (call : Calling) (env : Env) (h : Heap) : evC (cx19 call) n19_30 ⟨env, h⟩ = ( evC (cx19 call) n19_31 ⟨(Env.put env 41 (nat 0)), h⟩) := (ev_seqreg 13 (cOps (cL n19_30)) (cR n19_30) (by kernel_rfl)).trans (by
  refine opsK_0 ?_
  refine opsK_t 41 (nat 0) (by kernel_rfl) (by kernel_rfl) (by kernel_rfl) (by kernel_rfl) ?_
  exact opsK_e (by kernel_rfl) (by kernel_rfl))
@[simp] theorem n19_47_eq (call : Calling) (s : St) : evC (cx19 call) n19_47 s = some (.exit 1, s) := ev_exit 1 (by kernel_rfl)
@[simp] theorem n19_46_eq (call : Calling) (env : Env) (h : Heap) : evC (cx19 call) n19_46 ⟨env, h⟩ = (bnd (pureV h (mLoad (.arr 16 (.int .u8)) (env.get 9) h)) fun r0 => bnd (stU (.arr 16 (.int .u8)) (env.get 3) r0.1 r0.2) fun r1 => evC (cx19 call) n19_47 ⟨env, r1.2⟩) := (ev_seqreg 19 (cOps (cL n19_46)) (cR n19_46) (by kernel_rfl)).trans (by
  refine opsK_0 ?_
  refine opsK_p 59 (by kernel_rfl) (by kernel_rfl) (by kernel_rfl) (by kernel_rfl) fun r0 => ?_
  refine opsK_n (by kernel_rfl) (by kernel_rfl) (by kernel_rfl) fun r1 => ?_
  exact opsK_e (by kernel_rfl) (by kernel_rfl))
@[simp] theorem n19_48_eq (call : Calling) (s : St) : evC (cx19 call) n19_48 s = some (.nrm, s) := ev_skip (by kernel_rfl)
@[simp] theorem n19_45_eq (call : Calling) (s : St) : evC (cx19 call) n19_45 s = cnd (s.env.get 58) (evC (cx19 call) n19_46 s) (evC (cx19 call) n19_48 s) := ev_cond 58 _ _ (by kernel_rfl)
@[simp] theorem n19_44_eq (call : Calling) (env : Env) (h : Heap) : evC (cx19 call) n19_44 ⟨env, h⟩ = (bnd (pureV h (mBin .eql (env.get 7) (nat 13))) fun r1 => evC (cx19 call) n19_45 ⟨(Env.put env 58 r1.1), r1.2⟩) := (ev_seqreg 18 (cOps (cL n19_44)) (cR n19_44) (by kernel_rfl)).trans (by
  refine opsK_0 ?_
  refine opsK_t 57 (env.get 7) (by kernel_rfl) (by kernel_rfl) (by kernel_rfl) (by kernel_rfl) ?_
  refine opsK_p 58 (by kernel_rfl) (by kernel_rfl) (by kernel_rfl) (by kernel_rfl) fun r1 => ?_
  exact opsK_e (by kernel_rfl) (by kernel_rfl))
@[simp] theorem n19_55_eq (call : Calling) (s : St) : evC (cx19 call) n19_55 s = some (.nrm, s) := ev_skip (by kernel_rfl)
@[simp] theorem n19_56_eq (call : Calling) (s : St) : evC (cx19 call) n19_56 s = some (.exit 6, s) := ev_exit 6 (by kernel_rfl)
@[simp] theorem n19_54_eq (call : Calling) (s : St) : evC (cx19 call) n19_54 s = cnd (s.env.get 61) (evC (cx19 call) n19_55 s) (evC (cx19 call) n19_56 s) := ev_cond 61 _ _ (by kernel_rfl)
@[simp] theorem n19_53_eq (call : Calling) (env : Env) (h : Heap) : evC (cx19 call) n19_53 ⟨env, h⟩ = (bnd (pureV h (mBin .lss (env.get 11) (nat 16))) fun r1 => evC (cx19 call) n19_54 ⟨(Env.put env 61 r1.1), r1.2⟩) := (ev_seqreg 21 (cOps (cL n19_53)) (cR n19_53) (by kernel_rfl)).trans (by
  refine opsK_0 ?_
  refine opsK_t 60 (env.get 11) (by kernel_rfl) (by kernel_rfl) (by kernel_rfl) (by kernel_rfl) ?_
  refine opsK_p 61 (by kernel_rfl) (by kernel_rfl) (by kernel_rfl) (by kernel_rfl) fun r1 => ?_
  exact opsK_e (by kernel_rfl) (by kernel_rfl))
@[simp] theorem n19_66_eq (call : Calling) (s : St) : evC (cx19 call) n19_66 s = some (.nrm, s) := ev_skip (by kernel_rfl)
@[simp] theorem n19_67_eq (call : Calling) (s : St) : evC (cx19 call) n19_67 s = some (.exit 8, s) := ev_exit 8 (by kernel_rfl)
@[simp] theorem n19_65_eq (call : Calling) (s : St) : evC (cx19 call) n19_65 s = cnd (s.env.get 83) (evC (cx19 call) n19_66 s) (evC (cx19 call) n19_67 s) := ev_cond 83 _ _ (by kernel_rfl)
theorem n19_71_ok : drawOk (cOps n19_71).toList = true := by kernel_rfl
@[simp] theorem n19_71_eq (call : Calling) (env : Env) (h : Heap) : evC (cx19 call) n19_71 ⟨env, h⟩ = (bnd (pureV h (mBin .add (env.get 11) (env.get 13))) fun r2 => bnd (pureV r2.2 (mBin .add (env.get 11) (env.get 13))) fun r5 => bnd (pureV r5.2 (mIdxA (.arr 16 (.int .u8)) (env.get 9) r5.1)) fun r6 => bnd (pureV r6.2 (mLoad (.int .u8) r6.1 r6.2)) fun r7 => bnd (pureV r7.2 (mBin .xor r7.1 (env.get 12))) fun r9 => bnd (pureV r9.2 (mBin .add (env.get 11) (env.get 13))) fun r12 => bnd (pureV r12.2 (mIdxA (.arr 16 (.int .u8)) (env.get 9) r12.1)) fun r13 => bnd (pureV r13.2 (mLoad (.int .u8) r13.1 r13.2)) fun r14 => bnd (pureV r14.2 (mBin .add (env.get 13) (nat 1))) fun r17 => bnd (pureV r17.2 (mBin .rem r17.1 (nat 4))) fun r18 => bnd (pureV r18.2 (mBin .add (env.get 11) r18.1)) fun r19 => bnd (pureV r19.2 (mIdxA (.arr 16 (.int .u8)) (env.get 9) r19.1)) fun r20 => bnd (pureV r20.2 (mLoad (.int .u8) r20.1 r20.2)) fun r21 => bnd (pureV r21.2 (mBin .xor r14.1 r21.1)) fun r22 => bnd (still call 14 [r22.1, (u8 2#8)] r22.2) fun r23 => bnd (pureV r23.2 (mBin .xor r9.1 r23.1)) fun r24 => bnd (pureV r24.2 (mIdxA (.arr 16 (.int .u8)) (env.get 3) r2.1)) fun r25 => bnd (stU (.int .u8) r25.1 r24.1 r25.2) fun r26 => some (.nrm, ⟨env, r26.2⟩)) := (ev_draw 27 (cOps n19_71) (by kernel_rfl) n19_71_ok).trans (by
  refine opsK_0 ?_
  refine opsK_t 85 (env.get 11) (by kernel_rfl) (by kernel_rfl) (by kernel_rfl) (by kernel_rfl) ?_
  refine opsK_t 86 (env.get 13) (by kernel_rfl) (by kernel_rfl) (by kernel_rfl) (by kernel_rfl) ?_
  refine opsK_p 87 (by kernel_rfl) (by kernel_rfl) (by kernel_rfl) (by kernel_rfl) fun r2 => ?_
  refine opsK_t 88 (env.get 11) (by kernel_rfl) (by kernel_rfl) (by kernel_rfl) (by kernel_rfl) ?_
  refine opsK_t 89 (env.get 13) (by kernel_rfl) (by kernel_rfl) (by kernel_rfl) (by kernel_rfl) ?_
  refine opsK_p 90 (by kernel_rfl) (by kernel_rfl) (by kernel_rfl) (by kernel_rfl) fun r5 => ?_
  refine opsK_p 91 (by kernel_rfl) (by kernel_rfl) (by kernel_rfl) (by kernel_rfl) fun r6 => ?_
  refine opsK_p 92 (by kernel_rfl) (by kernel_rfl) (by kernel_rfl) (by kernel_rfl) fun r7 => ?_
  refine opsK_t 93 (env.get 12) (by kernel_rfl) (by kernel_rfl) (by kernel_rfl) (by kernel_rfl) ?_
  refine opsK_p 94 (by kernel_rfl) (by kernel_rfl) (by kernel_rfl) (by kernel_rfl) fun r9 => ?_
  refine opsK_t 95 (env.get 11) (by kernel_rfl) (by kernel_rfl) (by kernel_rfl) (by kernel_rfl) ?_
  refine opsK_t 96 (env.get 13) (by kernel_rfl) (by kernel_rfl) (by kernel_rfl) (by kernel_rfl) ?_
  refine opsK_p 97 (by kernel_rfl) (by kernel_rfl) (by kernel_rfl) (by kernel_rfl) fun r12 => ?_
  refine opsK_p 98 (by kernel_rfl) (by kernel_rfl) (by kernel_rfl) (by kernel_rfl) fun r13 => ?_
  refine opsK_p 99 (by kernel_rfl) (by kernel_rfl) (by kernel_rfl) (by kernel_rfl) fun r14 => ?_
  refine opsK_t 100 (env.get 11) (by kernel_rfl) (by kernel_rfl) (by kernel_rfl) (by kernel_rfl) ?_
  refine opsK_t 101 (env.get 13) (by kernel_rfl) (by kernel_rfl) (by kernel_rfl) (by kernel_rfl) ?_
  refine opsK_p 102 (by kernel_rfl) (by kernel_rfl) (by kernel_rfl) (by kernel_rfl) fun r17 => ?_
  refine opsK_p 103 (by kernel_rfl) (by kernel_rfl) (by kernel_rfl) (by kernel_rfl) fun r18 => ?_
  refine opsK_p 104 (by kernel_rfl) (by kernel_rfl) (by kernel_rfl) (by kernel_rfl) fun r19 => ?_
  refine opsK_p 105 (by kernel_rfl) (by kernel_rfl) (by kernel_rfl) (by kernel_rfl) fun r20 => ?_
  refine opsK_p 106 (by kernel_rfl) (by kernel_rfl) (by kernel_rfl) (by kernel_rfl) fun r21 => ?_
  refine opsK_p 107 (by kernel_rfl) (by kernel_rfl) (by kernel_rfl) (by kernel_rfl) fun r22 => ?_
  refine opsK_p 108 (by kernel_rfl) (by kernel_rfl) (by kernel_rfl) (by kernel_rfl) fun r23 => ?_
  refine opsK_p 109 (by kernel_rfl) (by kernel_rfl) (by kernel_rfl) (by kernel_rfl) fun r24 => ?_
  refine opsK_p 110 (by kernel_rfl) (by kernel_rfl) (by kernel_rfl) (by kernel_rfl) fun r25 => ?_
  refine opsK_n (by kernel_rfl) (by kernel_rfl) (by kernel_rfl) fun r26 => ?_
  exact opsK_e (by kernel_rfl) (by kernel_rfl))
@[simp] theorem n19_70_eq (call : Calling) (env : Env) (h : Heap) : evC (cx19 call) n19_70 ⟨env, h⟩ = ( evC (cx19 call) n19_71 ⟨(Env.put env 13 (env.get 82)), h⟩) := (ev_seqreg 26 (cOps (cL n19_70)) (cR n19_70) (by kernel_rfl)).trans (by
  refine opsK_0 ?_
  refine opsK_t 84 (env.get 82) (by kernel_rfl) (by kernel_rfl) (by kernel_rfl) (by kernel_rfl) ?_
  refine opsK_t 13 (env.get 82) (by kernel_rfl) (by kernel_rfl) (by kernel_rfl) (by kernel_rfl) ?_
  exact opsK_e (by kernel_rfl) (by kernel_rfl))
@[simp] theorem n19_69_eq (call : Calling) (s : St) : evC (cx19 call) n19_69 s = bnd (evC (cx19 call) n19_70 s) fun r => some (inBlk 9 r) := ev_block 9 _ (by kernel_rfl)
@[simp] theorem n19_72_eq (call : Calling) (env : Env) (h : Heap) : evC (cx19 call) n19_72 ⟨env, h⟩ = (bnd (pureV h (mBin .add (env.get 82) (nat 1))) fun r0 => some (.nrm, ⟨(Env.put env 82 r0.1), r0.2⟩)) := (ev_reg 28 (cOps n19_72) (by kernel_rfl)).trans (by
  refine opsK_0 ?_
  refine opsK_p 111 (by kernel_rfl) (by kernel_rfl) (by kernel_rfl) (by kernel_rfl) fun r0 => ?_
  refine opsK_t 82 r0.1 (by kernel_rfl) (by kernel_rfl) (by kernel_rfl) (by kernel_rfl) ?_
  exact opsK_e (by kernel_rfl) (by kernel_rfl))
@[simp] theorem n19_68_eq (call : Calling) (s : St) : evC (cx19 call) n19_68 s = bnd (evC (cx19 call) n19_69 s) (sqK (evC (cx19 call) n19_72)) := ev_seq _ _ (by kernel_rfl)
@[simp] theorem n19_64_eq (call : Calling) (s : St) : evC (cx19 call) n19_64 s = bnd (evC (cx19 call) n19_65 s) (sqK (evC (cx19 call) n19_68)) := ev_seq _ _ (by kernel_rfl)
@[simp] theorem n19_63_eq (call : Calling) (env : Env) (h : Heap) : evC (cx19 call) n19_63 ⟨env, h⟩ = (bnd (pureV h (mBin .lss (env.get 82) (nat 4))) fun r0 => evC (cx19 call) n19_64 ⟨(Env.put env 83 r0.1), r0.2⟩) := (ev_seqreg 25 (cOps (cL n19_63)) (cR n19_63) (by kernel_rfl)).trans (by
  refine opsK_0 ?_
  refine opsK_p 83 (by kernel_rfl) (by kernel_rfl) (by kernel_rfl) (by kernel_rfl) fun r0 => ?_
  exact opsK_e (by kernel_rfl) (by kernel_rfl))
@[simp] theorem n19_62_eq (call : Calling) (s : St) : evC (cx19 call) n19_62 s = evLoop (evC (cx19 call) n19_63) s := ev_loop _ (by kernel_rfl)
@[simp] theorem n19_61_eq (call : Calling) (s : St) : evC (cx19 call) n19_61 s = bnd (evC (cx19 call) n19_62 s) fun r => some (inBlk 8 r) := ev_block 8 _ (by kernel_rfl)
@[simp] theorem n19_60_eq (call : Calling) (env : Env) (h : Heap) : evC (cx19 call) n19_60 ⟨env, h⟩ = ( evC (cx19 call) n19_61 ⟨(Env.put env 82 (nat 0)), h⟩) := (ev_seqreg 24 (cOps (cL n19_60)) (cR n19_60) (by kernel_rfl)).trans (by
  refine opsK_0 ?_
  refine opsK_t 82 (nat 0) (by kernel_rfl) (by kernel_rfl) (by kernel_rfl) (by kernel_rfl) ?_
  exact opsK_e (by kernel_rfl) (by kernel_rfl))
theorem n19_59_ok : drawOk (cOps (cL n19_59)).toList = true := by kernel_rfl
@[simp] theorem n19_59_eq (call : Calling) (env : Env) (h : Heap) : evC (cx19 call) n19_59 ⟨env, h⟩ = (bnd (pureV h (mIdxA (.arr 16 (.int .u8)) (env.get 9) (env.get 11))) fun r1 => bnd (pureV r1.2 (mLoad (.int .u8) r1.1 r1.2)) fun r2 => bnd (pureV r2.2 (mBin .add (env.get 11) (nat 1))) fun r4 => bnd (pureV r4.2 (mIdxA (.arr 16 (.int .u8)) (env.get 9) r4.1)) fun r5 => bnd (pureV r5.2 (mLoad (.int .u8) r5.1 r5.2)) fun r6 => bnd (pureV r6.2 (mBin .xor r2.1 r6.1)) fun r7 => bnd (pureV r7.2 (mBin .add (env.get 11) (nat 2))) fun r9 => bnd (pureV r9.2 (mIdxA (.arr 16 (.int .u8)) (env.get 9) r9.1)) fun r10 => bnd (pureV r10.2 (mLoad (.int .u8) r10.1 r10.2)) fun r11 => bnd (pureV r11.2 (mBin .xor r7.1 r11.1)) fun r12 => bnd (pureV r12.2 (mBin .add (env.get 11) (nat 3))) fun r14 => bnd (pureV r14.2 (mIdxA (.arr 16 (.int .u8)) (env.get 9) r14.1)) fun r15 => bnd (pureV r15.2 (mLoad (.int .u8) r15.1 r15.2)) fun r16 => bnd (pureV r16.2 (mBin .xor r12.1 r16.1)) fun r17 => evC (cx19 call) n19_60 ⟨(Env.put env 12 r17.1), r17.2⟩) := (ev_seqdraw 23 (cOps (cL n19_59)) (cR n19_59) (by kernel_rfl) n19_59_ok).trans (by
  refine opsK_0 ?_
  refine opsK_t 64 (env.get 11) (by kernel_rfl) (by kernel_rfl) (by kernel_rfl) (by kernel_rfl) ?_
  refine opsK_p 65 (by kernel_rfl) (by kernel_rfl) (by kernel_rfl) (by kernel_rfl) fun r1 => ?_
  refine opsK_p 66 (by kernel_rfl) (by kernel_rfl) (by kernel_rfl) (by kernel_rfl) fun r2 => ?_
  refine opsK_t 67 (env.get 11) (by kernel_rfl) (by kernel_rfl) (by kernel_rfl) (by kernel_rfl) ?_
  refine opsK_p 68 (by kernel_rfl) (by kernel_rfl) (by kernel_rfl) (by kernel_rfl) fun r4 => ?_
  refine opsK_p 69 (by kernel_rfl) (by kernel_rfl) (by kernel_rfl) (by kernel_rfl) fun r5 => ?_
  refine opsK_p 70 (by kernel_rfl) (by kernel_rfl) (by kernel_rfl) (by kernel_rfl) fun r6 => ?_
  refine opsK_p 71 (by kernel_rfl) (by kernel_rfl) (by kernel_rfl) (by kernel_rfl) fun r7 => ?_
  refine opsK_t 72 (env.get 11) (by kernel_rfl) (by kernel_rfl) (by kernel_rfl) (by kernel_rfl) ?_
  refine opsK_p 73 (by kernel_rfl) (by kernel_rfl) (by kernel_rfl) (by kernel_rfl) fun r9 => ?_
  refine opsK_p 74 (by kernel_rfl) (by kernel_rfl) (by kernel_rfl) (by kernel_rfl) fun r10 => ?_
  refine opsK_p 75 (by kernel_rfl) (by kernel_rfl) (by kernel_rfl) (by kernel_rfl) fun r11 => ?_
  refine opsK_p 76 (by kernel_rfl) (by kernel_rfl) (by kernel_rfl) (by kernel_rfl) fun r12 => ?_
  refine opsK_t 77 (env.get 11) (by kernel_rfl) (by kernel_rfl) (by kernel_rfl) (by kernel_rfl) ?_
  refine opsK_p 78 (by kernel_rfl) (by kernel_rfl) (by kernel_rfl) (by kernel_rfl) fun r14 => ?_
  refine opsK_p 79 (by kernel_rfl) (by kernel_rfl) (by kernel_rfl) (by kernel_rfl) fun r15 => ?_
  refine opsK_p 80 (by kernel_rfl) (by kernel_rfl) (by kernel_rfl) (by kernel_rfl) fun r16 => ?_
  refine opsK_p 81 (by kernel_rfl) (by kernel_rfl) (by kernel_rfl) (by kernel_rfl) fun r17 => ?_
  refine opsK_t 12 r17.1 (by kernel_rfl) (by kernel_rfl) (by kernel_rfl) (by kernel_rfl) ?_
  exact opsK_e (by kernel_rfl) (by kernel_rfl))
@[simp] theorem n19_58_eq (call : Calling) (s : St) : evC (cx19 call) n19_58 s = bnd (evC (cx19 call) n19_59 s) fun r => some (inBlk 7 r) := ev_block 7 _ (by kernel_rfl)
@[simp] theorem n19_73_eq (call : Calling) (env : Env) (h : Heap) : evC (cx19 call) n19_73 ⟨env, h⟩ = (bnd (pureV h (mBin .add (env.get 11) (nat 4))) fun r1 => some (.nrm, ⟨(Env.put env 11 r1.1), r1.2⟩)) := (ev_reg 22 (cOps n19_73) (by kernel_rfl)).trans (by
  refine opsK_0 ?_
  refine opsK_t 62 (env.get 11) (by kernel_rfl) (by kernel_rfl) (by kernel_rfl) (by kernel_rfl) ?_
  refine opsK_p 63 (by kernel_rfl) (by kernel_rfl) (by kernel_rfl) (by kernel_rfl) fun r1 => ?_
  refine opsK_t 11 r1.1 (by kernel_rfl) (by kernel_rfl) (by kernel_rfl) (by kernel_rfl) ?_
  exact opsK_e (by kernel_rfl) (by kernel_rfl))
@[simp] theorem n19_57_eq (call : Calling) (s : St) : evC (cx19 call) n19_57 s = bnd (evC (cx19 call) n19_58 s) (sqK (evC (cx19 call) n19_73)) := ev_seq _ _ (by kernel_rfl)
@[simp] theorem n19_52_eq (call : Calling) (s : St) : evC (cx19 call) n19_52 s = bnd (evC (cx19 call) n19_53 s) (sqK (evC (cx19 call) n19_57)) := ev_seq _ _ (by kernel_rfl)
@[simp] theorem n19_51_eq (call : Calling) (s : St) : evC (cx19 call) n19_51 s = evLoop (evC (cx19 call) n19_52) s := ev_loop _ (by kernel_rfl)
@[simp] theorem n19_50_eq (call : Calling) (s : St) : evC (cx19 call) n19_50 s = bnd (evC (cx19 call) n19_51 s) fun r => some (inBlk 6 r) := ev_block 6 _ (by kernel_rfl)
@[simp] theorem n19_49_eq (call : Calling) (env : Env) (h : Heap) : evC (cx19 call) n19_49 ⟨env, h⟩ = ( evC (cx19 call) n19_50 ⟨(Env.put env 11 (nat 0)), h⟩) := (ev_seqreg 20 (cOps (cL n19_49)) (cR n19_49) (by kernel_rfl)).trans (by
  refine opsK_0 ?_
  refine opsK_t 11 (nat 0) (by kernel_rfl) (by kernel_rfl) (by kernel_rfl) (by kernel_rfl) ?_
  exact opsK_e (by kernel_rfl) (by kernel_rfl))
@[simp] theorem n19_43_eq (call : Calling) (s : St) : evC (cx19 call) n19_43 s = bnd (evC (cx19 call) n19_44 s) (sqK (evC (cx19 call) n19_49)) := ev_seq _ _ (by kernel_rfl)
@[simp] theorem n19_29_eq (call : Calling) (s : St) : evC (cx19 call) n19_29 s = bnd (evC (cx19 call) n19_30 s) (sqK (evC (cx19 call) n19_43)) := ev_seq _ _ (by kernel_rfl)
@[simp] theorem n19_28_eq (call : Calling) (env : Env) (h : Heap) : evC (cx19 call) n19_28 ⟨env, h⟩ = (bnd (mNew (.arr 16 (.int .u8)) (arr 16 fun _ => 0#8) h) fun r0 => evC (cx19 call) n19_29 ⟨(Env.put env 9 r0.1), r0.2⟩) := (ev_seqreg 12 (cOps (cL n19_28)) (cR n19_28) (by kernel_rfl)).trans (by
  refine opsK_0 ?_
  refine opsK_p 9 (by kernel_rfl) (by kernel_rfl) (by kernel_rfl) (by kernel_rfl) fun r0 => ?_
  exact opsK_e (by kernel_rfl) (by kernel_rfl))
@[simp] theorem n19_22_eq (call : Calling) (s : St) : evC (cx19 call) n19_22 s = bnd (evC (cx19 call) n19_23 s) (sqK (evC (cx19 call) n19_28)) := ev_seq _ _ (by kernel_rfl)
@[simp] theorem n19_8_eq (call : Calling) (s : St) : evC (cx19 call) n19_8 s = bnd (evC (cx19 call) n19_9 s) (sqK (evC (cx19 call) n19_22)) := ev_seq _ _ (by kernel_rfl)
@[simp] theorem n19_7_eq (call : Calling) (s : St) : evC (cx19 call) n19_7 s = bnd (evC (cx19 call) n19_8 s) fun r => some (inBlk 1 r) := ev_block 1 _ (by kernel_rfl)
@[simp] theorem n19_74_eq (call : Calling) (env : Env) (h : Heap) : evC (cx19 call) n19_74 ⟨env, h⟩ = (bnd (pureV h (mBin .add (env.get 7) (nat 1))) fun r1 => some (.nrm, ⟨(Env.put env 7 r1.1), r1.2⟩)) := (ev_reg 4 (cOps n19_74) (by kernel_rfl)).trans (by
  refine opsK_0 ?_
  refine opsK_t 17 (env.get 7) (by kernel_rfl) (by kernel_rfl) (by kernel_rfl) (by kernel_rfl) ?_
  refine opsK_p 18 (by kernel_rfl) (by kernel_rfl) (by kernel_rfl) (by kernel_rfl) fun r1 => ?_
  refine opsK_t 7 r1.1 (by kernel_rfl) (by kernel_rfl) (by kernel_rfl) (by kernel_rfl) ?_
  exact opsK_e (by kernel_rfl) (by kernel_rfl))
@[simp] theorem n19_6_eq (call : Calling) (s : St) : evC (cx19 call) n19_6 s = bnd (evC (cx19 call) n19_7 s) (sqK (evC (cx19 call) n19_74)) := ev_seq _ _ (by kernel_rfl)
@[simp] theorem n19_5_eq (call : Calling) (s : St) : evC (cx19 call) n19_5 s = evLoop (evC (cx19 call) n19_6) s := ev_loop _ (by kernel_rfl)
@[simp] theorem n19_4_eq (call : Calling) (s : St) : evC (cx19 call) n19_4 s = bnd (evC (cx19 call) n19_5 s) fun r => some (inBlk 0 r) := ev_block 0 _ (by kernel_rfl)
@[simp] theorem n19_3_eq (call : Calling) (env : Env) (h : Heap) : evC (cx19 call) n19_3 ⟨env, h⟩ = ( evC (cx19 call) n19_4 ⟨(Env.put env 7 (nat 0)), h⟩) := (ev_seqreg 3 (cOps (cL n19_3)) (cR n19_3) (by kernel_rfl)).trans (by
  refine opsK_0 ?_
  refine opsK_t 7 (nat 0) (by kernel_rfl) (by kernel_rfl) (by kernel_rfl) (by kernel_rfl) ?_
  exact opsK_e (by kernel_rfl) (by kernel_rfl))
@[simp] theorem n19_2_eq (call : Calling) (env : Env) (h : Heap) : evC (cx19 call) n19_2 ⟨env, h⟩ = (bnd (pureV h (mLoad (.arr 32 (.int .u8)) (env.get 2) h)) fun r0 => bnd (call 41 [r0.1, (env.get 5)] r0.2) fun r1 => bnd (mNew (.arr 60 (.arr 4 (.int .u8))) (mat 60 4 fun _ _ => 0#8) r1.2) fun r2 => bnd (stU (.arr 60 (.arr 4 (.int .u8))) r2.1 r1.1 r2.2) fun r3 => evC (cx19 call) n19_3 ⟨(Env.put env 6 r2.1), r3.2⟩) := (ev_seqreg 2 (cOps (cL n19_2)) (cR n19_2) (by kernel_rfl)).trans (by
  refine opsK_0 ?_
  refine opsK_p 15 (by kernel_rfl) (by kernel_rfl) (by kernel_rfl) (by kernel_rfl) fun r0 => ?_
  refine opsK_p 16 (by kernel_rfl) (by kernel_rfl) (by kernel_rfl) (by kernel_rfl) fun r1 => ?_
  refine opsK_p 6 (by kernel_rfl) (by kernel_rfl) (by kernel_rfl) (by kernel_rfl) fun r2 => ?_
  refine opsK_n (by kernel_rfl) (by kernel_rfl) (by kernel_rfl) fun r3 => ?_
  exact opsK_e (by kernel_rfl) (by kernel_rfl))
@[simp] theorem n19_1_eq (call : Calling) (env : Env) (h : Heap) : evC (cx19 call) n19_1 ⟨env, h⟩ = (bnd (call 40 [] h) fun r0 => bnd (mNew (.arr 256 (.int .u8)) (arr 256 fun _ => 0#8) r0.2) fun r1 => bnd (stU (.arr 256 (.int .u8)) r1.1 r0.1 r1.2) fun r2 => evC (cx19 call) n19_2 ⟨(Env.put env 5 r1.1), r2.2⟩) := (ev_seqreg 1 (cOps (cL n19_1)) (cR n19_1) (by kernel_rfl)).trans (by
  refine opsK_0 ?_
  refine opsK_p 14 (by kernel_rfl) (by kernel_rfl) (by kernel_rfl) (by kernel_rfl) fun r0 => ?_
  refine opsK_p 5 (by kernel_rfl) (by kernel_rfl) (by kernel_rfl) (by kernel_rfl) fun r1 => ?_
  refine opsK_n (by kernel_rfl) (by kernel_rfl) (by kernel_rfl) fun r2 => ?_
  exact opsK_e (by kernel_rfl) (by kernel_rfl))
@[simp] theorem n19_0_eq (call : Calling) (env : Env) (h : Heap) : evC (cx19 call) n19_0 ⟨env, h⟩ = (bnd (mNew (.arr 32 (.int .u8)) (env.get 0) h) fun r0 => bnd (mNew (.arr 16 (.int .u8)) (env.get 1) r0.2) fun r1 => bnd (mNew (.arr 16 (.int .u8)) (arr 16 fun _ => 0#8) r1.2) fun r2 => evC (cx19 call) n19_1 ⟨(Env.put (Env.put (Env.put env 2 r0.1) 3 r1.1) 4 r2.1), r2.2⟩) := (ev_seqreg 0 (cOps (cL n19_0)) (cR n19_0) (by kernel_rfl)).trans (by
  refine opsK_0 ?_
  refine opsK_p 2 (by kernel_rfl) (by kernel_rfl) (by kernel_rfl) (by kernel_rfl) fun r0 => ?_
  refine opsK_p 3 (by kernel_rfl) (by kernel_rfl) (by kernel_rfl) (by kernel_rfl) fun r1 => ?_
  refine opsK_p 4 (by kernel_rfl) (by kernel_rfl) (by kernel_rfl) (by kernel_rfl) fun r2 => ?_
  exact opsK_e (by kernel_rfl) (by kernel_rfl))
theorem b19 (call : Calling) (a0 a1 : AV) (h : Heap) : evBody (cx19 call) Try.f19 n19_0 [a0, a1] h = bnd (evC (cx19 call) n19_0 ⟨[(0, a0), (1, a1), (2, .junk), (3, .junk), (4, .junk), (5, .junk), (6, .junk), (7, .junk), (8, .junk), (9, .junk), (10, .junk), (11, .junk), (12, .junk), (13, .junk), (19, .junk), (20, .junk), (39, .junk), (41, .junk), (42, .junk), (58, .junk), (61, .junk), (82, .junk), (83, .junk)], h⟩) (retK fun s => bnd (bnd (mLoad (.arr 16 (.int .u8)) (s.env.get 4) s.heap) fun v => bnd (some []) fun vs => some (v :: vs)) fun vs => some (oneOrTuple vs)) := by kernel_rfl
theorem fn19 : Try.prog.funcs[19]? = some Try.f19 := by kernel_rfl
theorem k19 : Callable Try.prog 19 := ⟨Try.f19, fn19, by kernel_rfl, by kernel_rfl⟩
theorem s19 {call : Calling} (hc : CallOK Try.prog call) {args : List AV} {h h' : Heap} {v : AV} (he : evBody (cx19 call) Try.f19 n19_0 args h = some (v, h')) : Spec Try.prog 19 args h v h' := body_sound (C := cx19 call) TT_ok hc mixed_ok fn19 (by kernel_rfl) (by kernel_rfl) he
end Go.Vab

/-
  A block under a key: the rounds' parts.
-/
namespace Go.Vab
open Go Go.Proofs

def addK (w : Nat → Nat → BitVec 8) (j : Nat) (b : Nat → BitVec 8) (i : Nat) : BitVec 8 := b i ^^^ w (4 * j + i / 4) (i % 4)
def subSh (b : Nat → BitVec 8) (i : Nat) : BitVec 8 := subB (b ((i + 4 * (i % 4)) % 16))
def mixC (c : Nat → BitVec 8) (i : Nat) : BitVec 8 :=
  c i ^^^ (c (4 * (i / 4)) ^^^ c (4 * (i / 4) + 1) ^^^ c (4 * (i / 4) + 2) ^^^ c (4 * (i / 4) + 3)) ^^^ mulB (c i ^^^ c (4 * (i / 4) + (i % 4 + 1) % 4)) 2#8
def pre (w : Nat → Nat → BitVec 8) (b : Nat → BitVec 8) : Nat → Nat → BitVec 8
  | 0 => b
  | j + 1 => if j = 13 then subSh (addK w j (pre w b j)) else mixC (subSh (addK w j (pre w b j)))
def encF (w : Nat → Nat → BitVec 8) (b : Nat → BitVec 8) : Nat → BitVec 8 := addK w 14 (pre w b 14)

def E19 (L : Nat) (a0 a1 x7 x8 x9 x10 x11 x12 x13 x19 x20 x39 x41 x42 x58 x61 x82 x83 : AV) : Env :=
  [(0, a0), (1, a1), (2, .ptr L 0 [] (.arr 32 (.int .u8))), (3, .ptr (L + 1) 0 [] (.arr 16 (.int .u8))), (4, .ptr (L + 2) 0 [] (.arr 16 (.int .u8))), (5, .ptr (L + 3) 0 [] (.arr 256 (.int .u8))), (6, .ptr (L + 4) 0 [] (.arr 60 (.arr 4 (.int .u8)))),
   (7, x7), (8, x8), (9, x9), (10, x10), (11, x11), (12, x12), (13, x13), (19, x19), (20, x20), (39, x39), (41, x41), (42, x42), (58, x58), (61, x61), (82, x82), (83, x83)]
def H19 (h : Heap) (key b res : Nat → BitVec 8) (w : Nat → Nat → BitVec 8) (tr : Heap) : Heap :=
  h ++ (⟨arr 32 key, 0, .own⟩ :: ⟨arr 16 b, 0, .own⟩ :: ⟨arr 16 res, 0, .own⟩ :: ⟨arr 256 sbF, 0, .own⟩ :: ⟨mat 60 4 w, 0, .own⟩ :: tr)
/-- Where the round's own block lies. -/
abbrev P19 (h tr : Heap) : AV := .ptr (h.length + (tr.length + 1 + 1 + 1 + 1 + 1)) 0 [] (.arr 16 (.int .u8))

section
variable (h tr : Heap) (key res : Nat → BitVec 8) (w : Nat → Nat → BitVec 8) (a0 a1 : AV)

theorem add19 (j : Nat) (hj : j ≤ 14) (b : Nat → BitVec 8) (x8 x9 x10 x11 x12 x13 x20 x39 x41 x42 x58 x61 x82 x83 : AV) :
    ∃ r, evLoop (evC (cx19 callA4) n19_12) ⟨E19 h.length a0 a1 (nat j) x8 x9 x10 x11 x12 x13 (nat 0) x20 x39 x41 x42 x58 x61 x82 x83, H19 h key b res w tr⟩ = some r ∧
      ∃ y8 y19 y20, r = (.exit 2, ⟨E19 h.length a0 a1 (nat j) y8 x9 x10 x11 x12 x13 y19 y20 x39 x41 x42 x58 x61 x82 x83, H19 h key (addK w j b) res w tr⟩) := by
  refine evLoop_up 16 (fun i s => ∃ x8 x20 g, s = ⟨E19 h.length a0 a1 (nat j) x8 x9 x10 x11 x12 x13 (nat i) x20 x39 x41 x42 x58 x61 x82 x83, H19 h key g res w tr⟩ ∧
      ∀ k, g k = if k < i then addK w j b k else b k) ?_ ?_ ⟨_, _, _, rfl, fun k => by simp⟩
  · rintro i s hi ⟨x8, x20, g, rfl, hg⟩
    have e1 : mBin .add (nat i) (nat 1) = some (nat (i + 1)) := nat_add (by omega)
    have e2 : mBin .mul (nat 4) (nat j) = some (nat (4 * j)) := nat_mul (by omega)
    have e3 : mBin .quo (nat i) (nat 4) = some (nat (i / 4)) := nat_quo (by omega) (by omega)
    have e4 : mBin .add (nat (4 * j)) (nat (i / 4)) = some (nat (4 * j + i / 4)) := nat_add (by omega)
    have e5 : mBin .rem (nat i) (nat 4) = some (nat (i % 4)) := nat_rem (by omega)
    have e6 : 4 * j + i / 4 < 60 := by omega
    have e7 : i % 4 < 4 := Nat.mod_lt _ (by decide)
    refine ex_of (by conv => lhs; simp [E19, H19, Env.get, Env.put, hi, e1, e2, e3, e4, e5, e6, e7]) ?_
    refine ⟨rfl, _, _, _, rfl, fun k => ?_⟩
    by_cases hk : k = i
    · subst hk; rw [upd_same, hg k, if_neg (by omega), if_pos (by omega)]; rfl
    · rw [upd_ne _ _ hk, hg k]
      by_cases hlt : k < i
      · rw [if_pos hlt, if_pos (by omega)]
      · rw [if_neg hlt, if_neg (by omega)]
  · rintro s ⟨x8, x20, g, rfl, hg⟩
    refine ex_of (by conv => lhs; simp [E19, H19, Env.get, Env.put]) ?_
    have : arr 16 g = arr 16 (addK w j b) := arr_congr fun k hk => by rw [hg k, if_pos hk]
    rw [this]
    exact ⟨by simp, _, _, _, rfl⟩

theorem sub19 (b : Nat → BitVec 8) (x7 x8 x10 x11 x12 x13 x19 x20 x39 x42 x58 x61 x82 x83 : AV) :
    ∃ r, evLoop (evC (cx19 callA4) n19_33) ⟨E19 h.length a0 a1 x7 x8 (P19 h tr) x10 x11 x12 x13 x19 x20 x39 (nat 0) x42 x58 x61 x82 x83, H19 h key b res w (tr ++ [⟨(arr 16 fun _ => 0#8), 0, .own⟩])⟩ = some r ∧
      ∃ y10 y41 y42, r = (.exit 4, ⟨E19 h.length a0 a1 x7 x8 (P19 h tr) y10 x11 x12 x13 x19 x20 x39 y41 y42 x58 x61 x82 x83, H19 h key b res w (tr ++ [⟨arr 16 (subSh b), 0, .own⟩])⟩) := by
  refine evLoop_up 16 (fun i s => ∃ x10 x42 g, s = ⟨E19 h.length a0 a1 x7 x8 (P19 h tr) x10 x11 x12 x13 x19 x20 x39 (nat i) x42 x58 x61 x82 x83, H19 h key b res w (tr ++ [⟨arr 16 g, 0, .own⟩])⟩ ∧
      ∀ k, k < i → g k = subSh b k) ?_ ?_ ⟨_, _, _, rfl, fun k hk => absurd hk (by omega)⟩
  · rintro i s hi ⟨x10, x42, g, rfl, hg⟩
    have e1 : mBin .add (nat i) (nat 1) = some (nat (i + 1)) := nat_add (by omega)
    have e2 : mBin .rem (nat i) (nat 4) = some (nat (i % 4)) := nat_rem (by omega)
    have e3 : mBin .mul (nat 4) (nat (i % 4)) = some (nat (4 * (i % 4))) := nat_mul (by omega)
    have e4 : mBin .add (nat i) (nat (4 * (i % 4))) = some (nat (i + 4 * (i % 4))) := nat_add (by omega)
    have e5 : mBin .rem (nat (i + 4 * (i % 4))) (nat 16) = some (nat ((i + 4 * (i % 4)) % 16)) := nat_rem (by omega)
    have e7 : (i + 4 * (i % 4)) % 16 < 16 := Nat.mod_lt _ (by decide)
    refine ex_of (by conv => lhs; simp [E19, H19, Env.get, Env.put, hi, e1, e2, e3, e4, e5, e7]) ?_
    refine ⟨rfl, _, _, _, rfl, fun k hk => ?_⟩
    by_cases hki : k = i
    · subst hki; rw [upd_same]; rfl
    · rw [upd_ne _ _ hki]; exact hg k (by omega)
  · rintro s ⟨x10, x42, g, rfl, hg⟩
    refine ex_of (by conv => lhs; simp [E19, H19, Env.get, Env.put]) ?_
    rw [arr_congr hg]
    exact ⟨by simp, _, _, _, rfl⟩

theorem mix19 (u : Nat) (hu : u < 4) (c b : Nat → BitVec 8) (x7 x8 x10 x13 x19 x20 x39 x41 x42 x58 x61 x83 : AV) :
    ∃ r, evLoop (evC (cx19 callA4) n19_63) ⟨E19 h.length a0 a1 x7 x8 (P19 h tr) x10 (nat (4 * u)) (u8 (c (4 * u) ^^^ c (4 * u + 1) ^^^ c (4 * u + 2) ^^^ c (4 * u + 3))) x13 x19 x20 x39 x41 x42 x58 x61 (nat 0) x83, H19 h key b res w (tr ++ [⟨arr 16 c, 0, .own⟩])⟩ = some r ∧
      ∃ y13 y82 y83 g, r = (.exit 8, ⟨E19 h.length a0 a1 x7 x8 (P19 h tr) x10 (nat (4 * u)) (u8 (c (4 * u) ^^^ c (4 * u + 1) ^^^ c (4 * u + 2) ^^^ c (4 * u + 3))) y13 x19 x20 x39 x41 x42 x58 x61 y82 y83, H19 h key g res w (tr ++ [⟨arr 16 c, 0, .own⟩])⟩) ∧
        ∀ k, g k = if 4 * u ≤ k ∧ k < 4 * u + 4 then mixC c k else b k := by
  refine evLoop_up 4 (fun p s => ∃ x13 x83 g, s = ⟨E19 h.length a0 a1 x7 x8 (P19 h tr) x10 (nat (4 * u)) (u8 (c (4 * u) ^^^ c (4 * u + 1) ^^^ c (4 * u + 2) ^^^ c (4 * u + 3))) x13 x19 x20 x39 x41 x42 x58 x61 (nat p) x83, H19 h key g res w (tr ++ [⟨arr 16 c, 0, .own⟩])⟩ ∧
      ∀ k, g k = if 4 * u ≤ k ∧ k < 4 * u + p then mixC c k else b k) ?_ ?_ ⟨_, _, _, rfl, fun k => by rw [if_neg (by omega)]⟩
  · rintro p s hp ⟨x13, x83, g, rfl, hg⟩
    have e1 : mBin .add (nat p) (nat 1) = some (nat (p + 1)) := nat_add (by omega)
    have e2 : mBin .rem (nat (p + 1)) (nat 4) = some (nat ((p + 1) % 4)) := nat_rem (by omega)
    have e3 : mBin .add (nat (4 * u)) (nat p) = some (nat (4 * u + p)) := nat_add (by omega)
    have e4 : mBin .add (nat (4 * u)) (nat ((p + 1) % 4)) = some (nat (4 * u + (p + 1) % 4)) := nat_add (by omega)
    have e5 : 4 * u + p < 16 := by omega
    have e6 : 4 * u + (p + 1) % 4 < 16 := by omega
    refine ex_of (by conv => lhs; simp [E19, H19, Env.get, Env.put, hp, e1, e2, e3, e4, e5, e6]) ?_
    refine ⟨rfl, _, _, _, rfl, fun k => ?_⟩
    by_cases hki : k = 4 * u + p
    · subst hki
      rw [upd_same, if_pos (by omega)]
      unfold mixC
      rw [show (4 * u + p) / 4 = u by omega, show (4 * u + p) % 4 = p by omega]
    · rw [upd_ne _ _ hki, hg k]
      by_cases hlt : 4 * u ≤ k ∧ k < 4 * u + p
      · rw [if_pos hlt, if_pos (by omega)]
      · rw [if_neg hlt, if_neg (by omega)]
  · rintro s ⟨x13, x83, g, rfl, hg⟩
    refine ex_of (by conv => lhs; simp [E19, H19, Env.get, Env.put]) ?_
    exact ⟨by simp, _, _, _, _, rfl, hg⟩

theorem mixes19 (c b : Nat → BitVec 8) (x7 x8 x10 x12 x13 x19 x20 x39 x41 x42 x58 x61 x82 x83 : AV) :
    ∃ r, evLoop (evC (cx19 callA4) n19_52) ⟨E19 h.length a0 a1 x7 x8 (P19 h tr) x10 (nat 0) x12 x13 x19 x20 x39 x41 x42 x58 x61 x82 x83, H19 h key b res w (tr ++ [⟨arr 16 c, 0, .own⟩])⟩ = some r ∧
      ∃ y11 y12 y13 y61 y82 y83, r = (.exit 6, ⟨E19 h.length a0 a1 x7 x8 (P19 h tr) x10 y11 y12 y13 x19 x20 x39 x41 x42 x58 y61 y82 y83, H19 h key (mixC c) res w (tr ++ [⟨arr 16 c, 0, .own⟩])⟩) := by
  refine evLoop_up 4 (fun u s => ∃ x12 x13 x61 x82 x83 g, s = ⟨E19 h.length a0 a1 x7 x8 (P19 h tr) x10 (nat (4 * u)) x12 x13 x19 x20 x39 x41 x42 x58 x61 x82 x83, H19 h key g res w (tr ++ [⟨arr 16 c, 0, .own⟩])⟩ ∧
      ∀ k, g k = if k < 4 * u then mixC c k else b k) ?_ ?_ ⟨_, _, _, _, _, _, rfl, fun k => by rw [if_neg (by omega)]⟩
  · rintro u s hu ⟨x12, x13, x61, x82, x83, g, rfl, hg⟩
    have e1 : mBin .add (nat (4 * u)) (nat 1) = some (nat (4 * u + 1)) := nat_add (by omega)
    have e2 : mBin .add (nat (4 * u)) (nat 2) = some (nat (4 * u + 2)) := nat_add (by omega)
    have e3 : mBin .add (nat (4 * u)) (nat 3) = some (nat (4 * u + 3)) := nat_add (by omega)
    have e4 : mBin .add (nat (4 * u)) (nat 4) = some (nat (4 * u + 4)) := nat_add (by omega)
    have e5 : 4 * u + 3 < 16 ∧ 4 * u + 2 < 16 ∧ 4 * u + 1 < 16 ∧ 4 * u < 16 := by omega
    obtain ⟨r, hr, y13, y82, y83, g', rfl, hg'⟩ := mix19 h tr key res w a0 a1 u hu c g x7 x8 x10 x13 x19 x20 x39 x41 x42 x58 (.bool true) x83
    simp only [E19, H19, P19] at hr
    refine ex_of (by conv => lhs; simp [E19, H19, Env.get, Env.put, hu, e1, e2, e3, e4, e5, hr]) ?_
    refine ⟨rfl, _, _, _, _, _, _, rfl, fun k => ?_⟩
    rw [hg' k, hg k]
    by_cases h1 : k < 4 * u
    · rw [if_neg (by omega), if_pos h1, if_pos (by omega)]
    · rw [if_neg h1]
      by_cases h2 : k < 4 * u + 4
      · rw [if_pos (by omega), if_pos (by omega)]
      · rw [if_neg (by omega), if_neg (by omega)]
  · rintro s ⟨x12, x13, x61, x82, x83, g, rfl, hg⟩
    refine ex_of (by conv => lhs; simp [E19, H19, Env.get, Env.put]) ?_
    have : arr 16 g = arr 16 (mixC c) := arr_congr fun k hk => by rw [hg k, if_pos (by omega)]
    rw [this]
    exact ⟨by simp, _, _, _, _, _, _, rfl⟩
end

end Go.Vab
