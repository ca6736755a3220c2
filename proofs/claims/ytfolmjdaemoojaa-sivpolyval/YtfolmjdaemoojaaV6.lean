/-
  Rows of bytes and slices of them; memory of which one block is kept.
-/
import Derived.Test.YtfolmjdaemoojaaV3
import Derived.Test.YtfolmjdaemoojaaV5
set_option linter.all false
set_option linter.unusedSectionVars false
namespace Go.Vab
open Go

theorem arr0 (g : Nat → BitVec 8) : arr 0 g = arr 0 fun _ => 0#8 := arr_congr fun i hi => absurd hi (by omega)
@[simp] theorem arr_join (n m : Nat) (g f : Nat → BitVec 8) : (arr n g).join (arr m f) = some (arr (n + m) fun i => if i < n then g i else f (i - n)) := by
  simp only [arr, bytes, AV.join, if_true]
  congr 2
  rw [← List.map_append]
  congr 1
  apply List.ext_getElem?
  intro i
  rw [List.getElem?_append, range_map_getD, range_map_getD, range_map_getD, List.length_map, List.length_range]
  by_cases h : i < n
  · simp [h, show i < n + m by omega]
  · by_cases h2 : i - n < m
    · simp [h, h2, show i < n + m by omega]
    · simp [h, h2, show ¬ i < n + m by omega]
@[simp] theorem arr_splice (m n off k : Nat) (f g : Nat → BitVec 8) : (arr m f).splice off k (arr n g) = if off + k ≤ m ∧ k ≤ n then some (arr m fun i => if off ≤ i ∧ i < off + k then g (i - off) else f i) else none := by
  simp only [arr, bytes, AV.splice, List.length_map, List.length_range, true_and]
  by_cases hc : off + k ≤ m ∧ k ≤ n
  · rw [if_pos hc, if_pos hc]
    congr 2
    simp only [← List.map_take, ← List.map_drop]
    rw [← List.map_append, ← List.map_append]
    congr 1
    simp only [List.map_take, List.map_drop]
    apply List.ext_getElem?
    intro i
    rw [range_map_getD, List.append_assoc, List.getElem?_append, List.getElem?_append]
    simp only [List.length_take, List.length_map, List.length_range, List.getElem?_take, List.getElem?_drop, range_map_getD]
    obtain ⟨h1, h2⟩ := hc
    rw [Nat.min_eq_left (by omega : off ≤ m), Nat.min_eq_left h2]
    by_cases a1 : i < off
    · simp [a1, show i < m by omega, show ¬ off ≤ i by omega]
    · by_cases a2 : i < off + k
      · have : i - off < k := by omega
        simp [a1, a2, this, show i < m by omega, show off ≤ i by omega, show i - off < n by omega]
      · have a3 : ¬ i - off < k := by omega
        have a4 : off + k + (i - off - k) = i := by omega
        simp [a1, a2, a3, a4, show off ≤ i by omega]
  · rw [if_neg hc, if_neg hc]

@[simp] theorem ite_and {α : Type} {a b c d : Nat} (x y : α) (h : a ≤ b ∧ c ≤ d) : (if a ≤ b ∧ c ≤ d then x else y) = x := if_pos h

theorem get_append : ∀ (p : List Nat) (v : AV) (q : List Nat), v.get (p ++ q) = bnd (v.get p) fun r => r.get q
  | [], v, q => by simp
  | j :: p, .node vs, q => by
    simp only [List.cons_append, get_node]
    cases vs[j]? with
    | none => rfl
    | some v => simp only [bnd_some]; exact get_append p v q
  | j :: p, .ints k xs, q => by
    simp only [List.cons_append, AV.get]
    cases p with
    | nil =>
      cases q with
      | nil =>
        simp only [List.nil_append]
        cases xs[j]? <;> simp
      | cons a q =>
        simp only [List.nil_append]
        cases xs[j]? <;> simp [AV.get]
    | cons a p => simp
  | j :: p, .junk, q | j :: p, .undef, q | j :: p, .bool _, q | j :: p, .int _ _, q | j :: p, .str _, q | j :: p, .nilptr, q | j :: p, .ptr .., q | j :: p, .win .., q | j :: p, .nilslice, q | j :: p, .slice .., q
  | j :: p, .nilmap, q | j :: p, .map _, q | j :: p, .nilfn, q | j :: p, .fn .., q | j :: p, .tuple _, q => by simp [AV.get]

def slOk : AV → Nat → Prop
  | .nilslice, n => n = 0
  | .slice _ ver _ t off len none, n => len = n ∧ off + len ≤ ver ∧ t = .int .u8
  | .slice _ _ _ t _ len (some c), n => len = n ∧ len ≤ c ∧ t = .int .u8
  | _, _ => False

/-- A slice of bytes, and what it holds. -/
def Byt (h : Heap) (x : AV) (n : Nat) (g : Nat → BitVec 8) : Prop := mElems (.int .u8) x h = some (arr n g) ∧ slOk x n

theorem Byt.app {h : Heap} {x : AV} {n : Nat} {g : Nat → BitVec 8} (hb : Byt h x n g) (t : Heap) : Byt (h ++ t) x n g := ⟨mElems_app hb.1 t, hb.2⟩
theorem Byt.elems {h : Heap} {x : AV} {n : Nat} {g : Nat → BitVec 8} (hb : Byt h x n g) (t : Heap) : mElems (.int .u8) x (h ++ t) = some (arr n g) := (hb.app t).1
theorem Byt.len {h : Heap} {x : AV} {n : Nat} {g : Nat → BitVec 8} (hb : Byt h x n g) : mLenS x = some (nat n) := by
  obtain ⟨_, h2⟩ := hb
  unfold slOk at h2
  split at h2
  · subst h2; rfl
  · rw [← h2.1]; rfl
  · rw [← h2.1]; rfl
  · cases h2
theorem arr_len_inj {n m : Nat} {g f : Nat → BitVec 8} (h : arr n g = arr m f) : n = m := by
  have := congrArg AV.rowLen h
  simpa using this
theorem Byt.det {h : Heap} {x : AV} {n m : Nat} {g f : Nat → BitVec 8} (hb : Byt h x n g) (hc : Byt h x m f) : n = m ∧ ∀ i, i < n → g i = f i := by
  have e : arr n g = arr m f := Option.some.inj (hb.1.symm.trans hc.1)
  have := arr_len_inj e
  subst this
  exact ⟨rfl, arr_inj.1 e⟩
theorem Byt.congr {h : Heap} {x : AV} {n : Nat} {g f : Nat → BitVec 8} (hb : Byt h x n g) (e : ∀ i, i < n → g i = f i) : Byt h x n f := ⟨by rw [hb.1, arr_congr e], hb.2⟩
theorem Byt.nil (h : Heap) (g : Nat → BitVec 8) : Byt h .nilslice 0 g := ⟨by simp [mElems, arr, bytes], rfl⟩
theorem mElems_slc {i ver : Nat} {path : List Nat} {off len : Nat} {cap : Option Nat} {h : Heap} : mElems (.int .u8) (.slice i ver path (.int .u8) off len cap) h = bnd (blkAt h i ver) fun b => bnd (b.v.get path) fun r => r.cut off len := by simp [mElems]

theorem cut_ints {r : AV} {off len n : Nat} {g : Nat → BitVec 8} (h : r.cut off len = some (arr n g)) : n = len ∧ ∀ i, i < n → r.get [off + i] = some (u8 (g i)) := by
  cases r <;> simp only [AV.cut] at h <;> try (cases h; done)
  case ints k xs =>
    split at h
    · rename_i hl
      simp only [Option.some.injEq, arr, bytes, AV.ints.injEq] at h
      obtain ⟨hk, hx⟩ := h
      have hn : n = len := by
        have := congrArg List.length hx
        simp at this; omega
      refine ⟨hn, fun i hi => ?_⟩
      have := congrArg (fun l => l[i]?) hx
      simp only [List.getElem?_take, List.getElem?_drop, List.map_map, if_pos (show i < len by omega)] at this
      simp only [AV.get, this, List.getElem?_map, List.getElem?_range hi, Option.map_some]
      rw [hk]; rfl
    · cases h
  case node vs =>
    split at h
    · simp [arr, bytes] at h
    · cases h

theorem Byt.idx {h : Heap} {x : AV} {n : Nat} {g : Nat → BitVec 8} (hb : Byt h x n g) {i : Nat} (hi : i < n) : ∃ p, mIdxS (.int .u8) x (nat i) = some p ∧ mLoad (.int .u8) p h = some (u8 (g i)) ∧ ∀ t, mLoad (.int .u8) p (h ++ t) = some (u8 (g i)) := by
  have key : ∀ b ver path off len cap, x = .slice b ver path (.int .u8) off len cap → len = n → ∃ p, mIdxS (.int .u8) x (nat i) = some p ∧ mLoad (.int .u8) p h = some (u8 (g i)) ∧ ∀ t, mLoad (.int .u8) p (h ++ t) = some (u8 (g i)) := by
    rintro b ver path off len cap rfl rfl
    obtain ⟨h1, h2⟩ := hb
    rw [mElems_slc] at h1
    obtain ⟨bb, e1, e2⟩ := bnd_eq_some.1 h1
    obtain ⟨r, e3, e4⟩ := bnd_eq_some.1 e2
    have hl : mLoad (.int .u8) (.ptr b ver (path ++ [off + i]) (.int .u8)) h = some (u8 (g i)) := by
      rw [mLoad_ptr, e1, bnd_some, get_append, e3, bnd_some]
      exact (cut_ints e4).2 i hi
    exact ⟨.ptr b ver (path ++ [off + i]) (.int .u8), by simp [mIdxS, hi], hl, fun t => mLoad_app hl t⟩
  have h2 := hb.2
  unfold slOk at h2
  split at h2
  · omega
  · obtain ⟨e1, _, e3⟩ := h2; subst e3; exact key _ _ _ _ _ _ rfl e1
  · obtain ⟨e1, _, e3⟩ := h2; subst e3; exact key _ _ _ _ _ _ rfl e1
  · cases h2

theorem Byt.sub {h : Heap} {b ver : Nat} {path : List Nat} {off len n : Nat} {cap : Option Nat} {g : Nat → BitVec 8} (hb : Byt h (.slice b ver path (.int .u8) off len cap) n g) {l k : Nat} (hk : l + k ≤ n) :
    mElems (.int .u8) (.slice b ver path (.int .u8) (off + l) k (cap.map (· - l))) h = some (arr k fun i => g (l + i)) := by
  have h1 := hb.1
  rw [mElems_slc] at h1 ⊢
  obtain ⟨bb, e1, e2⟩ := bnd_eq_some.1 h1
  obtain ⟨r, e3, e4⟩ := bnd_eq_some.1 e2
  rw [e1, bnd_some, e3, bnd_some]
  cases r <;> simp only [AV.cut] at e4 <;> try (cases e4; done)
  case ints q xs =>
    split at e4
    · rename_i hl
      have hn := (cut_ints (r := .ints q xs) (off := off) (len := len) (by simp only [AV.cut]; rw [if_pos hl]; exact e4)).1
      simp only [AV.cut]
      rw [if_pos (by omega)]
      simp only [Option.some.injEq, arr, bytes, AV.ints.injEq] at e4 ⊢
      refine ⟨e4.1, ?_⟩
      have := congrArg (fun z => (z.drop l).take k) e4.2
      simp only [List.drop_take, List.drop_drop, List.take_take] at this
      rw [show min k (len - l) = k by omega] at this
      rw [this]
      apply List.ext_getElem?
      intro i
      simp only [List.getElem?_take, List.getElem?_drop, List.getElem?_map]
      by_cases hi : i < k
      · rw [if_pos hi, List.getElem?_range hi, List.getElem?_range (by omega)]; rfl
      · rw [if_neg hi, List.getElem?_eq_none (l := List.range k) (by simpa using hi)]; rfl
    · cases e4
  case node vs =>
    split at e4
    · simp [arr, bytes] at e4
    · cases e4

theorem Byt.from {h : Heap} {x : AV} {n : Nat} {g : Nat → BitVec 8} (hb : Byt h x n g) {l : Nat} (hl : l ≤ n) : ∃ y, mSliceS (.int .u8) x (some (nat l)) none none = some y ∧ Byt h y (n - l) fun i => g (l + i) := by
  have h2 := hb.2
  unfold slOk at h2
  split at h2
  · subst h2
    have : l = 0 := by omega
    subst this
    exact ⟨.nilslice, by simp [mSliceS, optBound, mBound], Byt.nil _ _⟩
  · obtain ⟨e1, e2, e3⟩ := h2; subst e3; subst e1
    rename_i i ver p off len
    refine ⟨.slice i ver p (.int .u8) (off + l) (len - l) none, ?_, ⟨hb.sub (by omega), by show _ ∧ _ ∧ _; exact ⟨rfl, by omega, rfl⟩⟩⟩
    simp [mSliceS, optBound, mBound, hl]
  · obtain ⟨e1, e2, e3⟩ := h2; subst e3; subst e1
    rename_i i ver p off len c
    refine ⟨.slice i ver p (.int .u8) (off + l) (len - l) (some (c - l)), ?_, ⟨hb.sub (by omega), by show _ ∧ _ ∧ _; exact ⟨rfl, by omega, rfl⟩⟩⟩
    simp [mSliceS, optBound, mBound, hl]
  · cases h2

theorem Byt.upto {h : Heap} {x : AV} {n : Nat} {g : Nat → BitVec 8} (hb : Byt h x n g) {l : Nat} (hl : l ≤ n) : ∃ y, mSliceS (.int .u8) x none (some (nat l)) none = some y ∧ Byt h y l g := by
  have h2 := hb.2
  unfold slOk at h2
  split at h2
  · subst h2
    have : l = 0 := by omega
    subst this
    exact ⟨.nilslice, by simp [mSliceS, optBound, mBound], Byt.nil _ _⟩
  · obtain ⟨e1, e2, e3⟩ := h2; subst e3; subst e1
    rename_i i ver p off len
    refine ⟨.slice i ver p (.int .u8) off l none, ?_, ⟨by simpa using hb.sub (l := 0) (k := l) (by omega), by show _ ∧ _ ∧ _; exact ⟨rfl, by omega, rfl⟩⟩⟩
    simp [mSliceS, optBound, mBound, show l ≤ ver - off by omega]
  · obtain ⟨e1, e2, e3⟩ := h2; subst e3; subst e1
    rename_i i ver p off len c
    refine ⟨.slice i ver p (.int .u8) off l (some c), ?_, ⟨by simpa using hb.sub (l := 0) (k := l) (by omega), by show _ ∧ _ ∧ _; exact ⟨rfl, by omega, rfl⟩⟩⟩
    simp [mSliceS, optBound, mBound, show l ≤ c by omega]
  · cases h2

/-- A slice of an array of one's own. -/
@[simp] theorem mSliceA_all (n : Nat) (u : Ty) (b ver : Nat) (path : List Nat) : mSliceA (.arr n u) (.ptr b ver path (.arr n u)) none none none = some (.slice b ver path u 0 n (some n)) := by simp [mSliceA, optBound]
@[simp] theorem mSliceA_from (n : Nat) (u : Ty) (b ver : Nat) (path : List Nat) (l : Nat) : mSliceA (.arr n u) (.ptr b ver path (.arr n u)) (some (nat l)) none none = if l ≤ n then some (.slice b ver path u l (n - l) (some (n - l))) else none := by
  by_cases h : l ≤ n <;> simp [mSliceA, optBound, mBound, h]
@[simp] theorem mSliceA_upto (n : Nat) (u : Ty) (b ver : Nat) (path : List Nat) (k : Nat) : mSliceA (.arr n u) (.ptr b ver path (.arr n u)) none (some (nat k)) none = if k ≤ n then some (.slice b ver path u 0 k (some n)) else none := by
  by_cases h : k ≤ n <;> simp [mSliceA, optBound, mBound, h]

theorem mCopy_own {h : Heap} {x : AV} {n m : Nat} {g f : Nat → BitVec 8} {i ver off len : Nat} {cap : Option Nat} {b : Blk} (hx : mElems (.int .u8) x h = some (arr n g)) (hb : blkAt h i ver = some b) (hv : b.v = arr m f) (hm : b.mode ≠ .ro) (hl : off + len ≤ m) :
    mCopy (.int .u8) (.slice i ver [] (.int .u8) off len cap) x h = some (nat (min n len), h.set i { b with v := arr m fun j => if off ≤ j ∧ j < off + min n len then g (j - off) else f j }) := by
  simp only [mCopy, hx, bnd_some, arr_rowLen, Ty.beq_self, if_true, hb, if_neg hm, hv, get_nil, arr_splice, put_nil]
  rw [if_pos ⟨by omega, by omega⟩]
  rfl

/-- Bytes as a string. -/
def strOf (n : Nat) (g : Nat → BitVec 8) : ByteArray := ⟨((List.range n).map fun i => UInt8.ofNat (g i).toNat).toArray⟩
theorem strOf_congr {n : Nat} {g f : Nat → BitVec 8} (h : ∀ i, i < n → g i = f i) : strOf n g = strOf n f := by
  unfold strOf
  congr 2
  exact List.map_congr_left fun i hi => by rw [h i (List.mem_range.1 hi)]
theorem Byt.str {h : Heap} {x : AV} {n : Nat} {g : Nat → BitVec 8} (hb : Byt h x n g) : mStr x h = some (.str (strOf n g)) := by
  have key : ∀ y : AV, (∀ s, y ≠ .str s) → mElems (.int .u8) y h = some (arr n g) → mStr y h = some (.str (strOf n g)) := by
    intro y hy he
    unfold mStr
    split
    · exact absurd rfl (hy _)
    · rw [he]
      simp only [bnd_some, arr, bytes, strOf, List.map_map]
      congr 5
  refine key x ?_ hb.1
  intro s e
  have h2 := hb.2
  rw [e] at h2
  exact h2
theorem Byt.strT {h : Heap} {x : AV} {n : Nat} {g : Nat → BitVec 8} (hb : Byt h x n g) (t : Heap) : mStr x (h ++ t) = some (.str (strOf n g)) := (hb.app t).str
theorem strOf_inj {n m : Nat} {g f : Nat → BitVec 8} (h : strOf n g = strOf m f) : n = m ∧ ∀ i, i < n → g i = f i := by
  unfold strOf at h
  have h1 : (List.range n).map (fun i => UInt8.ofNat (g i).toNat) = (List.range m).map fun i => UInt8.ofNat (f i).toNat := by
    have := congrArg ByteArray.data h
    simpa using this
  have hn : n = m := by simpa using congrArg List.length h1
  subst hn
  refine ⟨rfl, fun i hi => ?_⟩
  have := congrArg (fun l => l[i]?) h1
  rw [range_map_getD, range_map_getD, if_pos hi, if_pos hi, Option.some.injEq] at this
  have h3 := congrArg UInt8.toNat this
  have q : ∀ x : BitVec 8, (UInt8.ofNat x.toNat).toNat = x.toNat := fun x => by simp
  rw [q, q] at h3
  exact BitVec.eq_of_toNat_eq h3

/-! Memory of which one block is kept. -/
def Gh.pull (E : Gh) (n j : Nat) : Gh where
  n := n + 1
  blk i := if i = n then E.blk j else E.blk i
  base i := if i = n then E.base j else E.base i
  room i := if i = n then E.room j else E.room i
  ver i := if i = n then E.ver j else E.ver i
  many i := if i = n then E.many j else E.many i
  ty i := if i = n then E.ty j else E.ty i

theorem Gh.pull_ext (E : Gh) (n j : Nat) : Ext (E.cut n) (E.pull n j) := by
  have ne : ∀ i, i < n → i ≠ n := fun i hi => by omega
  refine ⟨Nat.le_succ _, fun i hi => ?_, fun i hi => ?_, fun i hi => ?_, fun i hi _ => ?_⟩
  · simp only [Gh.pull, if_neg (ne i hi)]; exact Nat.le_refl _
  · simp only [Gh.pull, if_neg (ne i hi)]; rfl
  · simp only [Gh.pull, if_neg (ne i hi)]; rfl
  · simp only [Gh.pull, if_neg (ne i hi)]; exact ⟨rfl, rfl, rfl⟩

theorem Moves.pull {E E' : Gh} {h t : Heap} {w w' : World} {j : Nat} {b : Blk} (R : RelHeap E h w) (m : Moves E h w E' (h ++ t) w') (hj : t[j]? = some b) (hb : ∃ k xs, b.v = .ints k xs) :
    Moves E h w (E'.pull h.length (h.length + j)) (h ++ [b]) w' := by
  have get : ∀ i c, h[i]? = some c → (h ++ t)[i]? = some c := fun i c hi => by
    rw [List.getElem?_append_left (List.getElem?_eq_some_iff.1 hi).1]; exact hi
  have getb : (h ++ t)[h.length + j]? = some b := by rw [List.getElem?_append_right (by omega)]; simpa using hj
  have spl : ∀ i c, (h ++ [b])[i]? = some c → (i < h.length ∧ h[i]? = some c) ∨ (i = h.length ∧ c = b) := by
    intro i c hi
    rw [List.getElem?_append] at hi
    split at hi
    · exact .inl ⟨by assumption, hi⟩
    · right
      have hl := (List.getElem?_eq_some_iff.1 hi).1
      simp at hl
      have : i = h.length := by omega
      subst this
      simp at hi
      exact ⟨rfl, hi.symm⟩
  have src : ∀ i c, (h ++ [b])[i]? = some c → ∃ i', (h ++ t)[i']? = some c ∧ (E'.pull h.length (h.length + j)).blk i = E'.blk i' ∧ (E'.pull h.length (h.length + j)).room i = E'.room i' ∧ ((i < h.length ∧ i' = i) ∨ (i = h.length ∧ i' = h.length + j)) := by
    intro i c hi
    rcases spl i c hi with ⟨h1, h2⟩ | ⟨h1, h2⟩
    · exact ⟨i, get i c h2, by simp [Gh.pull, show i ≠ h.length by omega], by simp [Gh.pull, show i ≠ h.length by omega], .inl ⟨h1, rfl⟩⟩
    · subst h1; subst h2
      exact ⟨h.length + j, getb, by simp [Gh.pull], by simp [Gh.pull], .inr ⟨rfl, rfl⟩⟩
  refine ⟨⟨?_, fun i hi => ?_, fun i hi => ?_, fun i hi => ?_, fun i hi he => ?_⟩, ⟨?_, fun i c hi => ?_, fun i k c d hi hk hp ho he => ?_⟩, m.size, m.keep, fun x hx => ?_, m.io⟩
  · show E.n ≤ h.length + 1; rw [R.n]; omega
  · rw [R.n] at hi; simp only [Gh.pull, if_neg (show i ≠ h.length by omega)]; exact m.ext.ver i (by rw [R.n]; exact hi)
  · rw [R.n] at hi; simp only [Gh.pull, if_neg (show i ≠ h.length by omega)]; exact m.ext.many i (by rw [R.n]; exact hi)
  · rw [R.n] at hi; simp only [Gh.pull, if_neg (show i ≠ h.length by omega)]; exact m.ext.ty i (by rw [R.n]; exact hi)
  · have hi' := hi
    rw [R.n] at hi
    simp only [Gh.pull, if_neg (show i ≠ h.length by omega)] at he ⊢
    exact m.ext.same i hi' he
  · simp [Gh.pull]
  · rcases spl i c hi with ⟨h1, h2⟩ | ⟨h1, h2⟩
    · have ne : i ≠ h.length := by omega
      have q := m.rel.at_ i c (get i c h2)
      obtain ⟨l, b1, b2, b3⟩ := q.body
      have hu : c.v.under h.length = true := by
        obtain ⟨l', g1, _⟩ := (R.at_ i c h2).body
        have := VRl.under _ _ g1
        rw [R.n] at this; exact this
      refine ⟨by simp only [Gh.pull, if_neg ne]; exact q.ver, ?_, ⟨l, VRl.mono (Gh.pull_ext _ _ _) _ _ (VRl.cut _ _ hu b1), ?_, ?_⟩, ?_⟩
      · have := q.fits; unfold Fits at this ⊢; simp only [Gh.pull, if_neg ne]; exact this
      · have := b2; unfold Placed at this ⊢; simp only [Gh.pull, if_neg ne]; exact this
      · have := b3; unfold Placed at this ⊢; simp only [Gh.pull, if_neg ne]; exact this
      · simp only [Gh.pull, if_neg ne]; exact q.grow
    · subst h1; subst h2
      have q := m.rel.at_ _ _ getb
      obtain ⟨l, b1, b2, b3⟩ := q.body
      obtain ⟨k, xs, hv⟩ := hb
      refine ⟨by simp only [Gh.pull, if_true]; exact q.ver, ?_, ⟨l, ?_, ?_, ?_⟩, ?_⟩
      · have := q.fits; unfold Fits at this ⊢; simp only [Gh.pull, if_true]; exact this
      · rw [hv] at b1 ⊢; simpa only [VRl] using b1
      · have := b2; unfold Placed at this ⊢; simp only [Gh.pull, if_true]; exact this
      · have := b3; unfold Placed at this ⊢; simp only [Gh.pull, if_true]; exact this
      · simp only [Gh.pull, if_true]; exact q.grow
  · obtain ⟨i', a1, a2, a3, a4⟩ := src i c hi
    obtain ⟨k', c1, c2, c3, c4⟩ := src k d hk
    have hp' : Placed E' i' c := by unfold Placed at hp ⊢; rw [← a3]; exact hp
    have ho' : Own E' k' d := ⟨ho.1, by have := ho.2; unfold Placed at this ⊢; rw [← c3]; exact this⟩
    have := m.rel.inj i' k' c d a1 c1 hp' ho' (by rw [← a2, ← c2]; exact he)
    rcases a4 with ⟨a5, a6⟩ | ⟨a5, a6⟩ <;> rcases c4 with ⟨c5, c6⟩ | ⟨c5, c6⟩ <;> omega
  · obtain ⟨i, c, hi, ho, he⟩ := hx
    obtain ⟨i', a1, a2, a3, a4⟩ := src i c hi
    exact m.img x ⟨i', c, a1, ⟨ho.1, by have := ho.2; unfold Placed at this ⊢; rw [← a3]; exact this⟩, by rw [← a2]; exact he⟩

theorem SlcAt.pull {E : Gh} {n j ver : Nat} {path : List Nat} {t : Ty} {off len : Nat} {cap : Option Nat} {a : Addr} {c : Nat} (h : SlcAt E j ver path t off len cap a c) : SlcAt (E.pull n j) n ver path t off len cap a c := by
  obtain ⟨_, h2, h3, h4, h5, h6⟩ := h
  refine ⟨Nat.lt_succ_self _, by simp only [Gh.pull, if_true]; exact h2, h3, h4, h5, fun hv => ?_⟩
  simp only [Gh.pull, if_true] at hv ⊢
  exact h6 hv

section
variable {P : Program} {f : Nat} {args : List AV} {h : Heap} {ver : Nat} {path : List Nat} {ty : Ty} {off len : Nat} {cap : Option Nat}
theorem Spec.pull (t : Heap) (j : Nat) (b : Blk) (hs : Spec P f args h (.slice (h.length + j) ver path ty off len cap) (h ++ t)) (hj : t[j]? = some b) (hb : ∃ k xs, b.v = .ints k xs) :
    Spec P f args h (.slice h.length ver path ty off len cap) (h ++ [b]) := by
  intro E w xs R hxs
  refine (hs E w xs R hxs).mono fun e w' hp => ?_
  obtain ⟨E', x, rfl, h1, h2⟩ := hp
  refine ⟨E'.pull h.length (h.length + j), x, rfl, ?_, h2.pull R hj hb⟩
  simp only [VRel] at h1 ⊢
  obtain ⟨a, c, e, hp⟩ := h1
  exact ⟨a, c, e, hp.pull⟩
theorem Spec.pullT (t : Heap) (j : Nat) (b : Blk) {k : IntKind} {n : Int} (hs : Spec P f args h (.tuple [.slice (h.length + j) ver path ty off len cap, .int k n]) (h ++ t)) (hj : t[j]? = some b) (hb : ∃ k xs, b.v = .ints k xs) :
    Spec P f args h (.tuple [.slice h.length ver path ty off len cap, .int k n]) (h ++ [b]) := by
  intro E w xs R hxs
  refine (hs E w xs R hxs).mono fun e w' hp => ?_
  obtain ⟨E', x, rfl, h1, h2⟩ := hp
  refine ⟨E'.pull h.length (h.length + j), x, rfl, ?_, h2.pull R hj hb⟩
  simp only [VRel, VRc] at h1 ⊢
  obtain ⟨ys, e, y1, ys1, e1, ⟨a, c, e2, hp⟩, y2, ys2, e3, e4, e5⟩ := h1
  exact ⟨ys, e, y1, ys1, e1, ⟨a, c, e2, hp.pull⟩, y2, ys2, e3, e4, e5⟩
end

/-- A contract whose arguments say what lies in memory. -/
theorem conC_eqP {α : Type} {enc : α → List AV} {P : α → Heap → Prop} {f : α → Heap → AV × Heap} (inj : ∀ a b h, P a h → P b h → enc a = enc b → f a h = f b h) {a : α} {h : Heap} (hp : P a h) : conC enc P f (enc a) h = some (f a h) := by
  have hx : ∃ b, enc b = enc a ∧ P b h := ⟨a, rfl, hp⟩
  unfold conC
  rw [dif_pos hx]
  congr 1
  exact inj _ _ h hx.choose_spec.2 hp hx.choose_spec.1

end Go.Vab

/- How the evaluator reads the functions of a seat. Printed by wip/tools/gen.py (own work). -/
namespace Go.Vab
open Go Go.Proofs
/-! vestry/siv.Keys -/
noncomputable def cx34 (call : Calling) : Ctx := ⟨call, TT, 36, [10, 11, 12, 13, 14, 15, 16, 17, 18, 19, 20, 22, 23, 24, 25, 26, 27, 28, 29, 30, 31, 32, 33, 34, 35]⟩
noncomputable def n34_0 : Code := bodyOf Try.f34
noncomputable def n34_1 : Code := cR n34_0
noncomputable def n34_2 : Code := cL n34_1
noncomputable def n34_3 : Code := cR n34_2
noncomputable def n34_4 : Code := cB n34_3
noncomputable def n34_5 : Code := cB n34_4
noncomputable def n34_6 : Code := cR n34_5
noncomputable def n34_7 : Code := cL n34_6
noncomputable def n34_8 : Code := cL n34_7
noncomputable def n34_9 : Code := cR n34_7
noncomputable def n34_10 : Code := cR n34_6
noncomputable def n34_11 : Code := cL n34_10
noncomputable def n34_12 : Code := cB n34_11
noncomputable def n34_13 : Code := cR n34_12
noncomputable def n34_14 : Code := cR n34_13
noncomputable def n34_15 : Code := cR n34_14
noncomputable def n34_16 : Code := cR n34_15
noncomputable def n34_17 : Code := cR n34_16
noncomputable def n34_18 : Code := cR n34_17
noncomputable def n34_19 : Code := cL n34_18
noncomputable def n34_20 : Code := cR n34_18
noncomputable def n34_21 : Code := cR n34_10
noncomputable def n34_22 : Code := cR n34_1
noncomputable def n34_23 : Code := cR n34_22
@[simp] theorem n34_8_eq (call : Calling) (s : St) : evC (cx34 call) n34_8 s = some (.nrm, s) := xK
@[simp] theorem n34_9_eq (call : Calling) (s : St) : evC (cx34 call) n34_9 s = some (.exit 0, s) := xX 0
@[simp] theorem n34_7_eq (call : Calling) (s : St) : evC (cx34 call) n34_7 s = cnd (s.env.get 9) (evC (cx34 call) n34_8 s) (evC (cx34 call) n34_9 s) := xC 9 _ _
theorem n34_19_ok : drawOk (cOps n34_19).toList = true := by kernel_rfl
@[simp] theorem n34_19_eq (call : Calling) (env : Env) (h : Heap) : evC (cx34 call) n34_19 ⟨env, h⟩ = (bnd (pureV h (mBin .mul (nat 8) (env.get 6))) fun r1 => bnd (pureV r1.2 (mSliceA (.arr 16 (.int .u8)) (env.get 4) (some r1.1) none none)) fun r2 => bnd (pureV r2.2 (mSliceA (.arr 16 (.int .u8)) (env.get 7) none (some (nat 8)) none)) fun r3 => bnd (mCopy (.int .u8) r2.1 r3.1 r3.2) fun r4 => some (.nrm, ⟨env, r4.2⟩)) := (xD 9 (cOps n34_19) n34_19_ok).trans (by
  refine opsK_0 ?_
  refine oT 22 (env.get 6) ?_
  refine oP 23 fun r1 => ?_
  refine oP 24 fun r2 => ?_
  refine oP 25 fun r3 => ?_
  refine oP 26 fun r4 => ?_
  exact oE)
theorem n34_20_ok : drawOk (cOps n34_20).toList = true := by kernel_rfl
@[simp] theorem n34_20_eq (call : Calling) (env : Env) (h : Heap) : evC (cx34 call) n34_20 ⟨env, h⟩ = (bnd (pureV h (mBin .sub (env.get 6) (nat 2))) fun r1 => bnd (pureV r1.2 (mBin .mul (nat 8) r1.1)) fun r2 => bnd (pureV r2.2 (mSliceA (.arr 32 (.int .u8)) (env.get 5) (some r2.1) none none)) fun r3 => bnd (pureV r3.2 (mSliceA (.arr 16 (.int .u8)) (env.get 7) none (some (nat 8)) none)) fun r4 => bnd (mCopy (.int .u8) r3.1 r4.1 r4.2) fun r5 => some (.nrm, ⟨env, r5.2⟩)) := (xD 10 (cOps n34_20) n34_20_ok).trans (by
  refine opsK_0 ?_
  refine oT 27 (env.get 6) ?_
  refine oP 28 fun r1 => ?_
  refine oP 29 fun r2 => ?_
  refine oP 30 fun r3 => ?_
  refine oP 31 fun r4 => ?_
  refine oP 32 fun r5 => ?_
  exact oE)
@[simp] theorem n34_18_eq (call : Calling) (s : St) : evC (cx34 call) n34_18 s = cnd (s.env.get 21) (evC (cx34 call) n34_19 s) (evC (cx34 call) n34_20 s) := xC 21 _ _
@[simp] theorem n34_17_eq (call : Calling) (env : Env) (h : Heap) : evC (cx34 call) n34_17 ⟨env, h⟩ = (bnd (pureV h (mBin .lss (env.get 6) (nat 2))) fun r1 => evC (cx34 call) n34_18 ⟨(Env.put env 21 r1.1), r1.2⟩) := (xSR 8 (cOps (cL n34_17)) (cR n34_17)).trans (by
  refine opsK_0 ?_
  refine oT 20 (env.get 6) ?_
  refine oP 21 fun r1 => ?_
  exact oE)
@[simp] theorem n34_16_eq (call : Calling) (env : Env) (h : Heap) : evC (cx34 call) n34_16 ⟨env, h⟩ = (bnd (pureV h (mLoad (.arr 32 (.int .u8)) (env.get 2) h)) fun r0 => bnd (pureV r0.2 (mLoad (.arr 16 (.int .u8)) (env.get 7) r0.2)) fun r1 => bnd (call 19 [r0.1, r1.1] r1.2) fun r2 => bnd (stU (.arr 16 (.int .u8)) (env.get 7) r2.1 r2.2) fun r3 => evC (cx34 call) n34_17 ⟨env, r3.2⟩) := (xSR 7 (cOps (cL n34_16)) (cR n34_16)).trans (by
  refine opsK_0 ?_
  refine oP 17 fun r0 => ?_
  refine oP 18 fun r1 => ?_
  refine oP 19 fun r2 => ?_
  refine oN fun r3 => ?_
  exact oE)
theorem n34_15_ok : drawOk (cOps (cL n34_15)).toList = true := by kernel_rfl
@[simp] theorem n34_15_eq (call : Calling) (env : Env) (h : Heap) : evC (cx34 call) n34_15 ⟨env, h⟩ = (bnd (pureV h (mSliceA (.arr 16 (.int .u8)) (env.get 7) (some (nat 4)) none none)) fun r0 => bnd (pureV r0.2 (mSliceA (.arr 12 (.int .u8)) (env.get 3) none none none)) fun r1 => bnd (mCopy (.int .u8) r0.1 r1.1 r1.2) fun r2 => evC (cx34 call) n34_16 ⟨env, r2.2⟩) := (xSD 6 (cOps (cL n34_15)) (cR n34_15) n34_15_ok).trans (by
  refine opsK_0 ?_
  refine oP 14 fun r0 => ?_
  refine oP 15 fun r1 => ?_
  refine oP 16 fun r2 => ?_
  exact oE)
@[simp] theorem n34_14_eq (call : Calling) (env : Env) (h : Heap) : evC (cx34 call) n34_14 ⟨env, h⟩ = (bnd (pureV h (mConv .u8 (env.get 6))) fun r1 => bnd (pureV r1.2 (mIdxA (.arr 16 (.int .u8)) (env.get 7) (nat 0))) fun r2 => bnd (stU (.int .u8) r2.1 r1.1 r2.2) fun r3 => evC (cx34 call) n34_15 ⟨env, r3.2⟩) := (xSR 5 (cOps (cL n34_14)) (cR n34_14)).trans (by
  refine opsK_0 ?_
  refine oT 11 (env.get 6) ?_
  refine oP 12 fun r1 => ?_
  refine oP 13 fun r2 => ?_
  refine oN fun r3 => ?_
  exact oE)
@[simp] theorem n34_13_eq (call : Calling) (env : Env) (h : Heap) : evC (cx34 call) n34_13 ⟨env, h⟩ = (bnd (mNew (.arr 16 (.int .u8)) (arr 16 fun _ => 0#8) h) fun r0 => evC (cx34 call) n34_14 ⟨(Env.put env 7 r0.1), r0.2⟩) := (xSR 4 (cOps (cL n34_13)) (cR n34_13)).trans (by
  refine opsK_0 ?_
  refine oP 7 fun r0 => ?_
  exact oE)
@[simp] theorem n34_12_eq (call : Calling) (env : Env) (h : Heap) : evC (cx34 call) n34_12 ⟨env, h⟩ = ( evC (cx34 call) n34_13 ⟨(Env.put env 6 (env.get 8)), h⟩) := (xSR 3 (cOps (cL n34_12)) (cR n34_12)).trans (by
  refine opsK_0 ?_
  refine oT 10 (env.get 8) ?_
  refine oT 6 (env.get 8) ?_
  exact oE)
@[simp] theorem n34_11_eq (call : Calling) (s : St) : evC (cx34 call) n34_11 s = bnd (evC (cx34 call) n34_12 s) fun r => some (inBlk 1 r) := xB 1 _
@[simp] theorem n34_21_eq (call : Calling) (env : Env) (h : Heap) : evC (cx34 call) n34_21 ⟨env, h⟩ = (bnd (pureV h (mBin .add (env.get 8) (nat 1))) fun r0 => some (.nrm, ⟨(Env.put env 8 r0.1), r0.2⟩)) := (xR 11 (cOps n34_21)).trans (by
  refine opsK_0 ?_
  refine oP 33 fun r0 => ?_
  refine oT 8 r0.1 ?_
  exact oE)
@[simp] theorem n34_10_eq (call : Calling) (s : St) : evC (cx34 call) n34_10 s = bnd (evC (cx34 call) n34_11 s) (sqK (evC (cx34 call) n34_21)) := xS _ _
@[simp] theorem n34_6_eq (call : Calling) (s : St) : evC (cx34 call) n34_6 s = bnd (evC (cx34 call) n34_7 s) (sqK (evC (cx34 call) n34_10)) := xS _ _
@[simp] theorem n34_5_eq (call : Calling) (env : Env) (h : Heap) : evC (cx34 call) n34_5 ⟨env, h⟩ = (bnd (pureV h (mBin .lss (env.get 8) (nat 6))) fun r0 => evC (cx34 call) n34_6 ⟨(Env.put env 9 r0.1), r0.2⟩) := (xSR 2 (cOps (cL n34_5)) (cR n34_5)).trans (by
  refine opsK_0 ?_
  refine oP 9 fun r0 => ?_
  exact oE)
@[simp] theorem n34_4_eq (call : Calling) (s : St) : evC (cx34 call) n34_4 s = evLoop (evC (cx34 call) n34_5) s := xL _
@[simp] theorem n34_3_eq (call : Calling) (s : St) : evC (cx34 call) n34_3 s = bnd (evC (cx34 call) n34_4 s) fun r => some (inBlk 0 r) := xB 0 _
@[simp] theorem n34_2_eq (call : Calling) (env : Env) (h : Heap) : evC (cx34 call) n34_2 ⟨env, h⟩ = ( evC (cx34 call) n34_3 ⟨(Env.put env 8 (nat 0)), h⟩) := (xSR 1 (cOps (cL n34_2)) (cR n34_2)).trans (by
  refine opsK_0 ?_
  refine oT 8 (nat 0) ?_
  exact oE)
@[simp] theorem n34_23_eq (call : Calling) (s : St) : evC (cx34 call) n34_23 s = some (.ret, s) := xE
@[simp] theorem n34_22_eq (call : Calling) (env : Env) (h : Heap) : evC (cx34 call) n34_22 ⟨env, h⟩ = (bnd (pureV h (mLoad (.arr 16 (.int .u8)) (env.get 4) h)) fun r0 => bnd (pureV r0.2 (mLoad (.arr 32 (.int .u8)) (env.get 5) r0.2)) fun r1 => bnd (stU (.arr 16 (.int .u8)) (env.get 4) r0.1 r1.2) fun r2 => bnd (stU (.arr 32 (.int .u8)) (env.get 5) r1.1 r2.2) fun r3 => evC (cx34 call) n34_23 ⟨env, r3.2⟩) := (xSR 12 (cOps (cL n34_22)) (cR n34_22)).trans (by
  refine opsK_0 ?_
  refine oP 34 fun r0 => ?_
  refine oP 35 fun r1 => ?_
  refine oN fun r2 => ?_
  refine oN fun r3 => ?_
  exact oE)
@[simp] theorem n34_1_eq (call : Calling) (s : St) : evC (cx34 call) n34_1 s = bnd (evC (cx34 call) n34_2 s) (sqK (evC (cx34 call) n34_22)) := xS _ _
@[simp] theorem n34_0_eq (call : Calling) (env : Env) (h : Heap) : evC (cx34 call) n34_0 ⟨env, h⟩ = (bnd (mNew (.arr 32 (.int .u8)) (env.get 0) h) fun r0 => bnd (mNew (.arr 12 (.int .u8)) (env.get 1) r0.2) fun r1 => bnd (mNew (.arr 16 (.int .u8)) (arr 16 fun _ => 0#8) r1.2) fun r2 => bnd (mNew (.arr 32 (.int .u8)) (arr 32 fun _ => 0#8) r2.2) fun r3 => evC (cx34 call) n34_1 ⟨(Env.put (Env.put (Env.put (Env.put env 2 r0.1) 3 r1.1) 4 r2.1) 5 r3.1), r3.2⟩) := (xSR 0 (cOps (cL n34_0)) (cR n34_0)).trans (by
  refine opsK_0 ?_
  refine oP 2 fun r0 => ?_
  refine oP 3 fun r1 => ?_
  refine oP 4 fun r2 => ?_
  refine oP 5 fun r3 => ?_
  exact oE)
theorem b34 (call : Calling) (a0 a1 : AV) (h : Heap) : evBody (cx34 call) Try.f34 n34_0 [a0, a1] h = bnd (evC (cx34 call) n34_0 ⟨[(0, a0), (1, a1), (2, .junk), (3, .junk), (4, .junk), (5, .junk), (6, .junk), (7, .junk), (8, .junk), (9, .junk), (21, .junk)], h⟩) (retK fun s => bnd (bnd (mLoad (.arr 16 (.int .u8)) (s.env.get 4) s.heap) fun v => bnd (bnd (mLoad (.arr 32 (.int .u8)) (s.env.get 5) s.heap) fun v => bnd (some []) fun vs => some (v :: vs)) fun vs => some (v :: vs)) fun vs => some (oneOrTuple vs)) := by kernel_rfl
theorem fn34 : Try.prog.funcs[34]? = some Try.f34 := by kernel_rfl
theorem k34 : Callable Try.prog 34 := ⟨Try.f34, fn34, by kernel_rfl, by kernel_rfl⟩
theorem s34 {call : Calling} (hc : CallOK Try.prog call) {args : List AV} {h h' : Heap} {v : AV} (he : evBody (cx34 call) Try.f34 n34_0 args h = some (v, h')) : Spec Try.prog 34 args h v h' := body_sound (C := cx34 call) TT_ok hc mixed_ok fn34 (by kernel_rfl) (by kernel_rfl) he
def sn34 := And.intro n34_8_eq (And.intro n34_9_eq (And.intro n34_7_eq (And.intro n34_19_eq (And.intro n34_20_eq (And.intro n34_18_eq (And.intro n34_17_eq (And.intro n34_16_eq (And.intro n34_15_eq (And.intro n34_14_eq (And.intro n34_13_eq (And.intro n34_12_eq (And.intro n34_11_eq (And.intro n34_21_eq (And.intro n34_10_eq (And.intro n34_6_eq (And.intro n34_5_eq (And.intro n34_4_eq (And.intro n34_3_eq (And.intro n34_2_eq (And.intro n34_23_eq (And.intro n34_22_eq (And.intro n34_1_eq (n34_0_eq)))))))))))))))))))))))
end Go.Vab

/-
  The keys of a message, walked.
-/
namespace Go.Vab
open Go Go.Proofs

@[simp] theorem mCopy_slc (i ver : Nat) (path : List Nat) (off len : Nat) (cap : Option Nat) (x : AV) (h : Heap) : mCopy (.int .u8) (.slice i ver path (.int .u8) off len cap) x h = bnd (mElems (.int .u8) x h) fun new => bnd new.rowLen fun n => bnd (blkAt h i ver) fun b => if b.mode = .ro then none else bnd (b.v.get path) fun r => bnd (r.splice off (min n len) new) fun r' => bnd (b.v.put path r') fun v' => some (nat (min n len), h.set i { b with v := v' }) := by
  simp only [mCopy, Ty.beq_self, if_true]
  rfl
attribute [simp] mElems_slc

def kblk (nonce : Nat → BitVec 8) (i : Nat) : Nat → BitVec 8 := fun j => if 4 ≤ j ∧ j < 16 then nonce (j - 4) else upd (fun _ => 0#8) 0 (BitVec.ofNat 8 i) j
def kF (key nonce : Nat → BitVec 8) (i : Nat) : Nat → BitVec 8 := encF (wd key) (kblk nonce i)
def keyA (key nonce : Nat → BitVec 8) : Nat → BitVec 8 := fun j => kF key nonce (j / 8) (j % 8)
def keyE (key nonce : Nat → BitVec 8) : Nat → BitVec 8 := fun j => kF key nonce (2 + j / 8) (j % 8)

theorem kblk_congr {n n' : Nat → BitVec 8} (h : ∀ i, i < 12 → n i = n' i) (i : Nat) : ∀ j, j < 16 → kblk n i j = kblk n' i j := by
  intro j hj
  unfold kblk
  split
  · exact h _ (by omega)
  · rfl
theorem kF_congr {k k' n n' : Nat → BitVec 8} (hk : ∀ i, i < 32 → k i = k' i) (hn : ∀ i, i < 12 → n i = n' i) (i : Nat) : ∀ j, j < 16 → kF k n i j = kF k' n' i j :=
  encF_congr (fun i _ p hp => wd_congr hk i p hp) (kblk_congr hn i)
theorem keyA_congr {k k' n n' : Nat → BitVec 8} (hk : ∀ i, i < 32 → k i = k' i) (hn : ∀ i, i < 12 → n i = n' i) : ∀ j, j < 16 → keyA k n j = keyA k' n' j := fun j _ => kF_congr hk hn _ _ (by omega)
theorem keyE_congr {k k' n n' : Nat → BitVec 8} (hk : ∀ i, i < 32 → k i = k' i) (hn : ∀ i, i < 12 → n i = n' i) : ∀ j, j < 32 → keyE k n j = keyE k' n' j := fun j _ => kF_congr hk hn _ _ (by omega)

def H34 (h : Heap) (key nonce a e : Nat → BitVec 8) (tr : Heap) : Heap := h ++ (⟨arr 32 key, 0, .own⟩ :: ⟨arr 12 nonce, 0, .own⟩ :: ⟨arr 16 a, 0, .own⟩ :: ⟨arr 32 e, 0, .own⟩ :: tr)

theorem walk34 (h : Heap) (key nonce : Nat → BitVec 8) : ∃ t, evBody (cx34 callS10) Try.f34 n34_0 [arr 32 key, arr 12 nonce] h = some (.tuple [arr 16 (keyA key nonce), arr 32 (keyE key nonce)], h ++ t) := by
  rw [b34]
  have main : Evs (evC (cx34 callS10) n34_0 ⟨[(0, arr 32 key), (1, arr 12 nonce), (2, .junk), (3, .junk), (4, .junk), (5, .junk), (6, .junk), (7, .junk), (8, .junk), (9, .junk), (21, .junk)], h⟩) (fun r => ∃ env t, r = (.ret, ⟨env, h ++ t⟩) ∧ mLoad (.arr 16 (.int .u8)) (env.get 4) (h ++ t) = some (arr 16 (keyA key nonce)) ∧ mLoad (.arr 32 (.int .u8)) (env.get 5) (h ++ t) = some (arr 32 (keyE key nonce))) := by
    obtain ⟨env, he⟩ : ∃ env : Env, env = [(0, arr 32 key), (1, arr 12 nonce), (2, .junk), (3, .junk), (4, .junk), (5, .junk), (6, .junk), (7, .junk), (8, .junk), (9, .junk), (21, .junk)] := ⟨_, rfl⟩
    rw [← he]
    have g0 : env.get 0 = arr 32 key := by rw [he]; rfl
    have g1 : env.get 1 = arr 12 nonce := by rw [he]; rfl
    clear he
    repeat (first
      | (with_reducible refine Evs.assoc ?_)
      | ((with_reducible refine Evs.some_bnd ?_); try dsimp only [sqK_nrm, sqK_exit, sqK_ret])
      | ((with_reducible apply Evs.bcndT); (focus (simp (disch := omega) [g0, g1] <;> omega)))
      | ((with_reducible apply Evs.bcndF); (focus (simp (disch := omega) [g0, g1] <;> omega)))
      | ((with_reducible apply Evs.step); (focus ((conv => lhs; simp (disch := omega) [g0, g1]); done)); try dsimp only)
      | (simp only [sn34, sqK_nrm, sqK_exit, sqK_ret, inBlk_nrm, inBlk_ret, inBlk_same]))
    refine Evs.bnd (Q := fun r => ∃ env' tr a e, r = (.exit 0, ⟨env', H34 h key nonce a e tr⟩) ∧ env'.get 4 = .ptr (h.length + 2) 0 [] (.arr 16 (.int .u8)) ∧ env'.get 5 = .ptr (h.length + 3) 0 [] (.arr 32 (.int .u8)) ∧ (∀ j, j < 16 → a j = keyA key nonce j) ∧ (∀ j, j < 32 → e j = keyE key nonce j)) ?_ ?_
    · refine Evs.up 6 (fun i s => ∃ env' tr a e, s = ⟨env', H34 h key nonce a e tr⟩ ∧ env'.get 2 = .ptr h.length 0 [] (.arr 32 (.int .u8)) ∧ env'.get 3 = .ptr (h.length + 1) 0 [] (.arr 12 (.int .u8)) ∧ env'.get 4 = .ptr (h.length + 2) 0 [] (.arr 16 (.int .u8)) ∧ env'.get 5 = .ptr (h.length + 3) 0 [] (.arr 32 (.int .u8)) ∧ env'.get 8 = nat i ∧ (∀ j, j < 16 → j < 8 * i → a j = keyA key nonce j) ∧ (∀ j, j < 32 → j + 16 < 8 * i → e j = keyE key nonce j)) ?_ ?_
        ⟨_, [], _, _, rfl, by simp, by simp, by simp, by simp, by simp, fun j _ hj => absurd hj (by omega), fun j _ hj => absurd hj (by omega)⟩
      · rintro i s hi ⟨env', tr, a, e, rfl, e2, e3, e4, e5, e8, ha, he⟩
        unfold H34
        by_cases h2 : i < 2
        · repeat (first
            | (with_reducible refine Evs.assoc ?_)
            | ((with_reducible refine Evs.some_bnd ?_); try dsimp only [sqK_nrm, sqK_exit, sqK_ret])
            | ((with_reducible apply Evs.bcndT); (focus (simp (disch := omega) [e2, e3, e4, e5, e8] <;> omega)))
            | ((with_reducible apply Evs.bcndF); (focus (simp (disch := omega) [e2, e3, e4, e5, e8] <;> omega)))
            | ((with_reducible apply Evs.step); (focus ((conv => lhs; simp (disch := omega) [e2, e3, e4, e5, e8]); done)); try dsimp only)
            | (simp only [sn34, sqK_nrm, sqK_exit, sqK_ret, inBlk_nrm, inBlk_ret, inBlk_same]))
          refine Evs.ret ⟨rfl, _, _, _, _, rfl, by simp [e2], by simp [e3], by simp [e4], by simp [e5], by simp, fun j hj hlt => ?_, fun j hj hlt => ?_⟩
          · split
            · rename_i hc
              have q1 : j / 8 = i := by omega
              have q2 : j % 8 = j - 8 * i := by omega
              unfold keyA
              rw [q1, q2]; rfl
            · exact ha j hj (by omega)
          · omega
        · repeat (first
            | (with_reducible refine Evs.assoc ?_)
            | ((with_reducible refine Evs.some_bnd ?_); try dsimp only [sqK_nrm, sqK_exit, sqK_ret])
            | ((with_reducible apply Evs.bcndT); (focus (simp (disch := omega) [e2, e3, e4, e5, e8] <;> omega)))
            | ((with_reducible apply Evs.bcndF); (focus (simp (disch := omega) [e2, e3, e4, e5, e8] <;> omega)))
            | ((with_reducible apply Evs.step); (focus ((conv => lhs; simp (disch := omega) [e2, e3, e4, e5, e8]); done)); try dsimp only)
            | (simp only [sn34, sqK_nrm, sqK_exit, sqK_ret, inBlk_nrm, inBlk_ret, inBlk_same]))
          refine Evs.ret ⟨rfl, _, _, _, _, rfl, by simp [e2], by simp [e3], by simp [e4], by simp [e5], by simp, fun j hj hlt => ?_, fun j hj hlt => ?_⟩
          · exact ha j hj (by omega)
          · split
            · rename_i hc
              have q1 : 2 + j / 8 = i := by omega
              have q2 : j % 8 = j - 8 * (i - 2) := by omega
              unfold keyE
              rw [q1, q2]; rfl
            · exact he j hj (by omega)
      · rintro s ⟨env', tr, a, e, rfl, e2, e3, e4, e5, e8, ha, he⟩
        repeat (first
          | (with_reducible refine Evs.assoc ?_)
          | ((with_reducible refine Evs.some_bnd ?_); try dsimp only [sqK_nrm, sqK_exit, sqK_ret])
          | ((with_reducible apply Evs.bcndT); (focus (simp (disch := omega) [e8] <;> omega)))
          | ((with_reducible apply Evs.bcndF); (focus (simp (disch := omega) [e8] <;> omega)))
          | ((with_reducible apply Evs.step); (focus ((conv => lhs; simp (disch := omega) [e8]); done)); try dsimp only)
          | (simp only [sn34, sqK_nrm, sqK_exit, sqK_ret, inBlk_nrm, inBlk_ret, inBlk_same]))
        exact Evs.ret ⟨by simp, _, _, _, _, rfl, by simp [e4], by simp [e5], fun j hj => ha j hj (by omega), fun j hj => he j hj (by omega)⟩
    · rintro r ⟨env', tr, a, e, rfl, e4, e5, ha, he⟩
      unfold H34
      repeat (first
        | (with_reducible refine Evs.assoc ?_)
        | ((with_reducible refine Evs.some_bnd ?_); try dsimp only [sqK_nrm, sqK_exit, sqK_ret])
        | ((with_reducible apply Evs.bcndT); (focus (simp (disch := omega) [e4, e5] <;> omega)))
        | ((with_reducible apply Evs.bcndF); (focus (simp (disch := omega) [e4, e5] <;> omega)))
        | ((with_reducible apply Evs.step); (focus ((conv => lhs; simp (disch := omega) [e4, e5]); done)); try dsimp only)
        | (simp only [sn34, sqK_nrm, sqK_exit, sqK_ret, inBlk_nrm, inBlk_ret, inBlk_same]))
      refine Evs.ret ⟨_, _, rfl, ?_, ?_⟩
      · simp [e4]; exact arr_congr ha
      · simp [e5]; exact arr_congr he
  obtain ⟨r, hr, env, t, rfl, e0, e1⟩ := main
  refine ⟨t, ?_⟩
  rw [hr]
  simp [e0, e1, oneOrTuple]

noncomputable def c34 := conC (fun x : (Nat → BitVec 8) × (Nat → BitVec 8) => [arr 32 x.1, arr 12 x.2]) (fun (x : (Nat → BitVec 8) × (Nat → BitVec 8)) h => True) (fun (x : (Nat → BitVec 8) × (Nat → BitVec 8)) h => (.tuple [arr 16 (keyA x.1 x.2), arr 32 (keyE x.1 x.2)], h))
noncomputable def callS11 : Calling := addC callS10 34 c34
theorem c34_eq (k : Nat → BitVec 8) (n : Nat → BitVec 8) (h : Heap) : c34 [arr 32 k, arr 12 n] h = some (.tuple [arr 16 (keyA k n), arr 32 (keyE k n)], h) :=
  conC_eq (enc := fun x : (Nat → BitVec 8) × (Nat → BitVec 8) => [arr 32 x.1, arr 12 x.2]) (P := fun (x : (Nat → BitVec 8) × (Nat → BitVec 8)) h => True) (a := (k, n)) (f := fun (x : (Nat → BitVec 8) × (Nat → BitVec 8)) h => (.tuple [arr 16 (keyA x.1 x.2), arr 32 (keyE x.1 x.2)], h)) (fun x y h e => by
    have e1 := arr_inj.1 (List.cons.inj e).1
    have e2 := arr_inj.1 (List.cons.inj (List.cons.inj e).2).1
    show (AV.tuple [_, _], _) = (AV.tuple [_, _], _)
    rw [arr_congr (keyA_congr e1 e2), arr_congr (keyE_congr e1 e2)]
    ) trivial
theorem callS11_ok : CallOK Try.prog callS11 := addC_con callS10_ok k34 fun x h hx => by
  obtain ⟨t, ht⟩ := walk34 h x.1 x.2
  exact (s34 callS10_ok ht).drop0 t rfl
@[simp] theorem callS11_ne {f : Nat} (args : List AV) (h : Heap) (hf : f ≠ 34) : callS11 f args h = callS10 f args h := addC_ne _ _ _ args h hf
@[simp] theorem callS11_sne {f : Nat} (args : List AV) (h : Heap) (hf : f ≠ 34) : still callS11 f args h = still callS10 f args h := still_ne _ _ _ args h hf
@[simp] theorem callS11_34 (k : Nat → BitVec 8) (n : Nat → BitVec 8) (h : Heap) : callS11 34 [arr 32 k, arr 12 n] h = some (.tuple [arr 16 (keyA k n), arr 32 (keyE k n)], h) := by
  unfold callS11; rw [addC_same]; exact c34_eq k n h
@[simp] theorem callS11_34s (k : Nat → BitVec 8) (n : Nat → BitVec 8) (h : Heap) : still callS11 34 [arr 32 k, arr 12 n] h = some (.tuple [arr 16 (keyA k n), arr 32 (keyE k n)], h) := still_of fun t => by simp

end Go.Vab

/-
  append, for bytes.
-/
namespace Go.Vab
open Go

@[simp] theorem mFresh_eq (t : Ty) (row : AV) (n : Nat) (h : Heap) : mFresh t row n h = (.slice h.length n [] t 0 n none, h ++ [⟨row, n, .open⟩]) := rfl
@[simp] theorem mExtract_0 (a : AV) (vs : List AV) : mExtract (.tuple (a :: vs)) 0 = some a := rfl
@[simp] theorem mExtract_1 (a b : AV) (vs : List AV) : mExtract (.tuple (a :: b :: vs)) 1 = some b := rfl
@[simp] theorem mLenS_slc (i ver : Nat) (path : List Nat) (t : Ty) (off len : Nat) (cap : Option Nat) : mLenS (.slice i ver path t off len cap) = some (nat len) := rfl
@[simp] theorem mLenS_nil : mLenS .nilslice = some (nat 0) := rfl
@[simp] theorem mBinT_eql (a b : ByteArray) : mBinT .eql (.str a) (.str b) = some (.bool (decide (a = b))) := rfl
theorem room_and {α : Type} (a : Nat) (x y : α) : (if a * 1 ≤ roomBound ∧ a ≤ roomBound ∧ 1 ≤ 1000000 then x else y) = if a ≤ 140737488355328 then x else y := by
  unfold roomBound
  by_cases h : a ≤ 140737488355328
  · rw [if_pos h, if_pos ⟨by omega, h, by omega⟩]
  · rw [if_neg h, if_neg (fun q => h q.2.1)]
@[simp] theorem mApp_nil (x : AV) (h : Heap) : mApp (.int .u8) 1 .nilslice x h = bnd (mElems (.int .u8) x h) fun new => bnd new.rowLen fun n => if n = 0 then some (.nilslice, h) else if n ≤ 140737488355328 then some (.slice h.length n [] (.int .u8) 0 n none, h ++ [⟨new, n, .open⟩]) else none := by
  unfold mApp
  congr 1; funext new; congr 1; funext n
  simp only [room_and, mFresh_eq]
@[simp] theorem mApp_slc (i ver : Nat) (path : List Nat) (off len c : Nat) (x : AV) (h : Heap) : mApp (.int .u8) 1 (.slice i ver path (.int .u8) off len (some c)) x h =
    bnd (mElems (.int .u8) x h) fun new => bnd new.rowLen fun n => bnd (blkAt h i ver) fun b => bnd (b.v.get path) fun r => bnd (r.cut off len) fun old => bnd (old.join new) fun all =>
      if len + n ≤ 140737488355328 then
        if c = 0 then some (.slice h.length (len + n) [] (.int .u8) 0 (len + n) none, h ++ [⟨all, len + n, .open⟩])
        else if len + n ≤ c then (if b.mode = .ro then none else bnd (r.splice (off + len) n new) fun r' => bnd (b.v.put path r') fun v' => some (.slice i ver path (.int .u8) off (len + n) (some c), h.set i { b with v := v' }))
        else some (.slice h.length (len + n) [] (.int .u8) 0 (len + n) none, h ++ [⟨all, len + n, .open⟩])
      else none := by
  unfold mApp
  congr 1; funext new; congr 1; funext n
  simp only [room_and, mFresh_eq, mElems_slc, bnd_assoc]
  cases blkAt h i ver with
  | none => rfl
  | some b =>
    simp only [bnd_some]
    cases b.v.get path with
    | none => rfl
    | some r => simp only [bnd_some]
@[simp] theorem mApp_open (i ver len : Nat) (x : AV) (h : Heap) : mApp (.int .u8) 1 (.slice i ver [] (.int .u8) 0 len none) x h =
    bnd (mElems (.int .u8) x h) fun new => bnd new.rowLen fun n => bnd (blkAt h i ver) fun b => bnd (b.v.cut 0 len) fun old => bnd (old.join new) fun all =>
      if len + n ≤ 140737488355328 then (if b.mode = .open ∧ len = ver then some (.slice i (len + n) [] (.int .u8) 0 (len + n) none, h.set i { b with v := all, ver := len + n }) else none) else none := by
  unfold mApp
  congr 1; funext new; congr 1; funext n
  simp only [room_and, mElems_slc, bnd_assoc]
  cases blkAt h i ver with
  | none => rfl
  | some b =>
    simp only [bnd_some, get_nil]
    simp

/-- A slice of a row of one's own. -/
theorem Byt.own {h : Heap} {i ver off n m c : Nat} {b : Blk} {f : Nat → BitVec 8} (hb : blkAt h i ver = some b) (hv : b.v = arr m f) (hl : off + n ≤ m) (hc : n ≤ c) : Byt h (.slice i ver [] (.int .u8) off n (some c)) n fun j => f (off + j) := by
  refine ⟨?_, rfl, hc, rfl⟩
  rw [mElems_slc, hb, bnd_some, get_nil, bnd_some, hv, arr_cut, if_pos hl]
theorem Byt.grown {h : Heap} {i ver n m : Nat} {b : Blk} {f : Nat → BitVec 8} (hb : blkAt h i ver = some b) (hv : b.v = arr m f) (hl : n ≤ m) (hc : n ≤ ver) : Byt h (.slice i ver [] (.int .u8) 0 n none) n f := by
  refine ⟨?_, rfl, by omega, rfl⟩
  rw [mElems_slc, hb, bnd_some, get_nil, bnd_some, hv, arr_cut, if_pos (by omega)]
  congr 1
  exact arr_congr fun i _ => by rw [Nat.zero_add]

theorem Byt.arr16 {h : Heap} {x : AV} {g : Nat → BitVec 8} (hb : Byt h x 16 g) : ∃ p, mArrayAt 16 (.int .u8) x = some p ∧ ∀ t, mLoad (.arr 16 (.int .u8)) p (h ++ t) = some (arr 16 g) := by
  have key : ∀ b ver path off cap, x = .slice b ver path (.int .u8) off 16 cap → ∃ p, mArrayAt 16 (.int .u8) x = some p ∧ ∀ t, mLoad (.arr 16 (.int .u8)) p (h ++ t) = some (arr 16 g) := by
    rintro b ver path off cap rfl
    refine ⟨.win b ver path (.int .u8) off 16, by simp [mArrayAt], fun t => ?_⟩
    have := hb.elems t
    rw [mElems_slc] at this
    rw [mLoad_win]; exact this
  have h2 := hb.2
  unfold slOk at h2
  split at h2
  · omega
  · obtain ⟨e1, _, e3⟩ := h2; subst e3; subst e1; exact key _ _ _ _ _ rfl
  · obtain ⟨e1, _, e3⟩ := h2; subst e3; subst e1; exact key _ _ _ _ _ rfl
  · cases h2

def ansV (code L len cap : Nat) : AV := if code = 0 then .tuple [.slice L 0 [] (.int .u8) 0 len (some cap), nat 0] else .tuple [.nilslice, nat code]
def ansH (code : Nat) (h : Heap) (b : Blk) : Heap := if code = 0 then h ++ [b] else h

end Go.Vab

/-
  The seat's slices of bytes, read.
-/
namespace Go.Proofs.Ytfolmjdaemoojaa
open Go.Vab

theorem tt5of {el : TI} (h : TT 5 = some el) : el.ty = .int .u8 := by
  rw [tt5] at h
  rw [← Option.some.inj h]

theorem rd37 {h : Heap} {n : Nat} {a : AV} (hr : Rd Try.prog TT h n 37 a) : ∃ (m : Nat) (g : Nat → BitVec 8), Byt h a m g ∧ m ≤ maxLen := by
  cases n with
  | zero => exact hr.elim
  | succ n =>
    simp only [Rd, und37] at hr
    rcases hr with rfl | ⟨i, el, row, mo, len, cap, rfl, h2, h3, h4, h5, h6, h7⟩
    · exact ⟨0, fun _ => 0#8, Byt.nil _ _, Nat.zero_le _⟩
    · have e := tt5of h2
      rw [e] at h4 ⊢
      obtain ⟨g, rfl⟩ := row5 h4 h7
      exact ⟨len, g, (Byt.own (b := ⟨Vab.arr cap g, 0, mo⟩) (off := 0) (by unfold blkAt; rw [h3]; rfl) rfl (by omega) h5).congr fun i _ => by rw [Nat.zero_add], by omega⟩

end Go.Proofs.Ytfolmjdaemoojaa

/- How the evaluator reads the functions of a seat. Printed by wip/tools/gen.py (own work). -/
namespace Go.Vab
open Go Go.Proofs
/-! (vestry/siv.element).on -/
noncomputable def cx56 (call : Calling) : Ctx := ⟨call, TT, 25, [9, 10, 12, 13, 14, 15, 16, 17, 18, 19, 20, 21, 22, 23, 24]⟩
noncomputable def n56_0 : Code := bodyOf Try.f56
noncomputable def n56_1 : Code := cR n56_0
noncomputable def n56_2 : Code := cL n56_1
noncomputable def n56_3 : Code := cB n56_2
noncomputable def n56_4 : Code := cB n56_3
noncomputable def n56_5 : Code := cL n56_4
noncomputable def n56_6 : Code := cR n56_5
noncomputable def n56_7 : Code := cL n56_6
noncomputable def n56_8 : Code := cR n56_6
noncomputable def n56_9 : Code := cR n56_4
noncomputable def n56_10 : Code := cB n56_9
noncomputable def n56_11 : Code := cR n56_10
noncomputable def n56_12 : Code := cR n56_11
noncomputable def n56_13 : Code := cR n56_12
noncomputable def n56_14 : Code := cR n56_1
noncomputable def n56_15 : Code := cR n56_14
@[simp] theorem n56_7_eq (call : Calling) (s : St) : evC (cx56 call) n56_7 s = some (.nrm, s) := xK
@[simp] theorem n56_8_eq (call : Calling) (s : St) : evC (cx56 call) n56_8 s = some (.exit 0, s) := xX 0
@[simp] theorem n56_6_eq (call : Calling) (s : St) : evC (cx56 call) n56_6 s = cnd (s.env.get 11) (evC (cx56 call) n56_7 s) (evC (cx56 call) n56_8 s) := xC 11 _ _
@[simp] theorem n56_5_eq (call : Calling) (env : Env) (h : Heap) : evC (cx56 call) n56_5 ⟨env, h⟩ = (bnd (pureV h (mLenS (env.get 2))) fun r1 => bnd (pureV r1.2 (mBin .gtr r1.1 (nat 0))) fun r2 => evC (cx56 call) n56_6 ⟨(Env.put env 11 r2.1), r2.2⟩) := (xSR 1 (cOps (cL n56_5)) (cR n56_5)).trans (by
  refine opsK_0 ?_
  refine oT 9 (env.get 2) ?_
  refine oP 10 fun r1 => ?_
  refine oP 11 fun r2 => ?_
  exact oE)
theorem n56_13_ok : drawOk (cOps n56_13).toList = true := by kernel_rfl
@[simp] theorem n56_13_eq (call : Calling) (env : Env) (h : Heap) : evC (cx56 call) n56_13 ⟨env, h⟩ = (bnd (pureV h (mLoad ty66 (env.get 3) h)) fun r0 => bnd (pureV r0.2 (mLoad (.arr 16 (.int .u8)) (env.get 7) r0.2)) fun r1 => bnd (still call 50 [r1.1] r1.2) fun r2 => bnd (still call 59 [r0.1, r2.1] r2.2) fun r3 => bnd (pureV r3.2 (mLoad ty66 (env.get 4) r3.2)) fun r4 => bnd (still call 51 [r3.1, r4.1] r4.2) fun r5 => bnd (stU ty66 (env.get 3) r5.1 r5.2) fun r6 => some (.nrm, ⟨env, r6.2⟩)) := (xD 5 (cOps n56_13) n56_13_ok).trans (by
  refine opsK_0 ?_
  refine oP 18 fun r0 => ?_
  refine oP 19 fun r1 => ?_
  refine oP 20 fun r2 => ?_
  refine oP 21 fun r3 => ?_
  refine oP 22 fun r4 => ?_
  refine oP 23 fun r5 => ?_
  refine oN fun r6 => ?_
  exact oE)
@[simp] theorem n56_12_eq (call : Calling) (env : Env) (h : Heap) : evC (cx56 call) n56_12 ⟨env, h⟩ = (bnd (pureV h (mSliceS (.int .u8) (env.get 2) (some (env.get 8)) none none)) fun r2 => evC (cx56 call) n56_13 ⟨(Env.put env 2 r2.1), r2.2⟩) := (xSR 4 (cOps (cL n56_12)) (cR n56_12)).trans (by
  refine opsK_0 ?_
  refine oT 15 (env.get 2) ?_
  refine oT 16 (env.get 8) ?_
  refine oP 17 fun r2 => ?_
  refine oT 2 r2.1 ?_
  exact oE)
@[simp] theorem n56_11_eq (call : Calling) (env : Env) (h : Heap) : evC (cx56 call) n56_11 ⟨env, h⟩ = (bnd (pureV h (mSliceA (.arr 16 (.int .u8)) (env.get 7) none none none)) fun r0 => bnd (mCopy (.int .u8) r0.1 (env.get 2) r0.2) fun r2 => evC (cx56 call) n56_12 ⟨(Env.put env 8 r2.1), r2.2⟩) := (xSR 3 (cOps (cL n56_11)) (cR n56_11)).trans (by
  refine opsK_0 ?_
  refine oP 12 fun r0 => ?_
  refine oT 13 (env.get 2) ?_
  refine oP 14 fun r2 => ?_
  refine oT 8 r2.1 ?_
  exact oE)
@[simp] theorem n56_10_eq (call : Calling) (env : Env) (h : Heap) : evC (cx56 call) n56_10 ⟨env, h⟩ = (bnd (mNew (.arr 16 (.int .u8)) (arr 16 fun _ => 0#8) h) fun r0 => evC (cx56 call) n56_11 ⟨(Env.put env 7 r0.1), r0.2⟩) := (xSR 2 (cOps (cL n56_10)) (cR n56_10)).trans (by
  refine opsK_0 ?_
  refine oP 7 fun r0 => ?_
  exact oE)
@[simp] theorem n56_9_eq (call : Calling) (s : St) : evC (cx56 call) n56_9 s = bnd (evC (cx56 call) n56_10 s) fun r => some (inBlk 1 r) := xB 1 _
@[simp] theorem n56_4_eq (call : Calling) (s : St) : evC (cx56 call) n56_4 s = bnd (evC (cx56 call) n56_5 s) (sqK (evC (cx56 call) n56_9)) := xS _ _
@[simp] theorem n56_3_eq (call : Calling) (s : St) : evC (cx56 call) n56_3 s = evLoop (evC (cx56 call) n56_4) s := xL _
@[simp] theorem n56_2_eq (call : Calling) (s : St) : evC (cx56 call) n56_2 s = bnd (evC (cx56 call) n56_3 s) fun r => some (inBlk 0 r) := xB 0 _
@[simp] theorem n56_15_eq (call : Calling) (s : St) : evC (cx56 call) n56_15 s = some (.ret, s) := xE
@[simp] theorem n56_14_eq (call : Calling) (env : Env) (h : Heap) : evC (cx56 call) n56_14 ⟨env, h⟩ = (bnd (pureV h (mLoad ty66 (env.get 3) h)) fun r0 => bnd (stU ty66 (env.get 6) r0.1 r0.2) fun r1 => evC (cx56 call) n56_15 ⟨env, r1.2⟩) := (xSR 6 (cOps (cL n56_14)) (cR n56_14)).trans (by
  refine opsK_0 ?_
  refine oP 24 fun r0 => ?_
  refine oN fun r1 => ?_
  exact oE)
@[simp] theorem n56_1_eq (call : Calling) (s : St) : evC (cx56 call) n56_1 s = bnd (evC (cx56 call) n56_2 s) (sqK (evC (cx56 call) n56_14)) := xS _ _
@[simp] theorem n56_0_eq (call : Calling) (env : Env) (h : Heap) : evC (cx56 call) n56_0 ⟨env, h⟩ = (bnd (mNew ty66 (env.get 0) h) fun r0 => bnd (mNew ty66 (env.get 1) r0.2) fun r1 => bnd (mNew ty66 (.node [(u64 0#64), (u64 0#64)]) r1.2) fun r2 => evC (cx56 call) n56_1 ⟨(Env.put (Env.put (Env.put env 3 r0.1) 4 r1.1) 6 r2.1), r2.2⟩) := (xSR 0 (cOps (cL n56_0)) (cR n56_0)).trans (by
  refine opsK_0 ?_
  refine oP 3 fun r0 => ?_
  refine oP 4 fun r1 => ?_
  refine oP 6 fun r2 => ?_
  exact oE)
theorem b56 (call : Calling) (a0 a1 a2 : AV) (h : Heap) : evBody (cx56 call) Try.f56 n56_0 [a0, a1, a2] h = bnd (evC (cx56 call) n56_0 ⟨[(0, a0), (1, a1), (2, a2), (3, .junk), (4, .junk), (5, .junk), (6, .junk), (7, .junk), (8, .junk), (11, .junk)], h⟩) (retK fun s => bnd (bnd (mLoad ty66 (s.env.get 6) s.heap) fun v => bnd (some []) fun vs => some (v :: vs)) fun vs => some (oneOrTuple vs)) := by kernel_rfl
theorem fn56 : Try.prog.funcs[56]? = some Try.f56 := by kernel_rfl
theorem k56 : Callable Try.prog 56 := ⟨Try.f56, fn56, by kernel_rfl, by kernel_rfl⟩
theorem s56 {call : Calling} (hc : CallOK Try.prog call) {args : List AV} {h h' : Heap} {v : AV} (he : evBody (cx56 call) Try.f56 n56_0 args h = some (v, h')) : Spec Try.prog 56 args h v h' := body_sound (C := cx56 call) TT_ok hc mixed_ok fn56 (by kernel_rfl) (by kernel_rfl) he
def sn56 := And.intro n56_7_eq (And.intro n56_8_eq (And.intro n56_6_eq (And.intro n56_5_eq (And.intro n56_13_eq (And.intro n56_12_eq (And.intro n56_11_eq (And.intro n56_10_eq (And.intro n56_9_eq (And.intro n56_4_eq (And.intro n56_3_eq (And.intro n56_2_eq (And.intro n56_15_eq (And.intro n56_14_eq (And.intro n56_1_eq (n56_0_eq)))))))))))))))
end Go.Vab

/- How the evaluator reads the functions of a seat. Printed by wip/tools/gen.py (own work). -/
namespace Go.Vab
open Go Go.Proofs
/-! vestry/siv.Polyval -/
noncomputable def cx33 (call : Calling) : Ctx := ⟨call, TT, 11, [5, 6, 7, 8, 9, 10]⟩
noncomputable def n33_0 : Code := bodyOf Try.f33
noncomputable def n33_1 : Code := cR n33_0
noncomputable def n33_2 : Code := cR n33_1
@[simp] theorem n33_2_eq (call : Calling) (s : St) : evC (cx33 call) n33_2 s = some (.ret, s) := xE
@[simp] theorem n33_1_eq (call : Calling) (env : Env) (h : Heap) : evC (cx33 call) n33_1 ⟨env, h⟩ = (bnd (pureV h (fillRow ty66 (.node [(u64 0#64), (u64 0#64)]) [])) fun r0 => bnd (pureV r0.2 (mLoad (.arr 16 (.int .u8)) (env.get 2) r0.2)) fun r1 => bnd (call 50 [r1.1] r1.2) fun r2 => bnd (call 56 [r0.1, r2.1, (env.get 1)] r2.2) fun r4 => bnd (call 52 [r4.1] r4.2) fun r5 => bnd (stU (.arr 16 (.int .u8)) (env.get 4) r5.1 r5.2) fun r6 => evC (cx33 call) n33_2 ⟨env, r6.2⟩) := (xSR 1 (cOps (cL n33_1)) (cR n33_1)).trans (by
  refine opsK_0 ?_
  refine oP 5 fun r0 => ?_
  refine oP 6 fun r1 => ?_
  refine oP 7 fun r2 => ?_
  refine oT 8 (env.get 1) ?_
  refine oP 9 fun r4 => ?_
  refine oP 10 fun r5 => ?_
  refine oN fun r6 => ?_
  exact oE)
@[simp] theorem n33_0_eq (call : Calling) (env : Env) (h : Heap) : evC (cx33 call) n33_0 ⟨env, h⟩ = (bnd (mNew (.arr 16 (.int .u8)) (env.get 0) h) fun r0 => bnd (mNew (.arr 16 (.int .u8)) (arr 16 fun _ => 0#8) r0.2) fun r1 => evC (cx33 call) n33_1 ⟨(Env.put (Env.put env 2 r0.1) 4 r1.1), r1.2⟩) := (xSR 0 (cOps (cL n33_0)) (cR n33_0)).trans (by
  refine opsK_0 ?_
  refine oP 2 fun r0 => ?_
  refine oP 4 fun r1 => ?_
  exact oE)
theorem b33 (call : Calling) (a0 a1 : AV) (h : Heap) : evBody (cx33 call) Try.f33 n33_0 [a0, a1] h = bnd (evC (cx33 call) n33_0 ⟨[(0, a0), (1, a1), (2, .junk), (3, .junk), (4, .junk)], h⟩) (retK fun s => bnd (bnd (mLoad (.arr 16 (.int .u8)) (s.env.get 4) s.heap) fun v => bnd (some []) fun vs => some (v :: vs)) fun vs => some (oneOrTuple vs)) := by kernel_rfl
theorem fn33 : Try.prog.funcs[33]? = some Try.f33 := by kernel_rfl
theorem k33 : Callable Try.prog 33 := ⟨Try.f33, fn33, by kernel_rfl, by kernel_rfl⟩
theorem s33 {call : Calling} (hc : CallOK Try.prog call) {args : List AV} {h h' : Heap} {v : AV} (he : evBody (cx33 call) Try.f33 n33_0 args h = some (v, h')) : Spec Try.prog 33 args h v h' := body_sound (C := cx33 call) TT_ok hc mixed_ok fn33 (by kernel_rfl) (by kernel_rfl) he
def sn33 := And.intro n33_2_eq (And.intro n33_1_eq (n33_0_eq))
end Go.Vab

/-
  POLYVAL over bytes, walked.
-/
namespace Go.Vab
open Go Go.Proofs

/-- A block of the bytes, filled up. -/
def blkF (n : Nat) (g : Nat → BitVec 8) (i : Nat) : Nat → BitVec 8 := fun k => if 16 * i + k < n then g (16 * i + k) else 0#8
def onX (x y : BitVec 128) (n : Nat) (g : Nat → BitVec 8) : Nat → BitVec 128
  | 0 => x
  | i + 1 => dotX (onX x y n g i ^^^ val16 (blkF n g i)) y
def polyX (x y : BitVec 128) (n : Nat) (g : Nat → BitVec 8) : BitVec 128 := onX x y n g ((n + 15) / 16)
theorem onX_congr {n : Nat} {g f : Nat → BitVec 8} (h : ∀ i, i < n → g i = f i) (x y : BitVec 128) : ∀ i, onX x y n g i = onX x y n f i
  | 0 => rfl
  | i + 1 => by
    simp only [onX]
    rw [onX_congr h x y i]
    congr 2
    exact val16_congr fun k _ => by
      unfold blkF
      split
      · exact h _ (by assumption)
      · rfl
theorem polyX_congr {n : Nat} {g f : Nat → BitVec 8} (h : ∀ i, i < n → g i = f i) (x y : BitVec 128) : polyX x y n g = polyX x y n f := onX_congr h x y _

def H56 (h : Heap) (x y : BitVec 128) (tr : Heap) (z : BitVec 128) : Heap := h ++ (⟨elX x, 0, .own⟩ :: ⟨elX y, 0, .own⟩ :: ⟨elX z, 0, .own⟩ :: tr)
theorem fill0 : fillRow ty66 (.node [u64 0#64, u64 0#64]) [] = some (elX 0#128) := rfl
theorem zero_el : el 0#64 0#64 = elX 0#128 := rfl

theorem walk56 (h : Heap) (x y : BitVec 128) (b : AV) (n : Nat) (g : Nat → BitVec 8) (hb : Byt h b n g) (hn : n < 9223372036854775000) : ∃ t, evBody (cx56 callS11) Try.f56 n56_0 [elX x, elX y, b] h = some (elX (polyX x y n g), h ++ t) := by
  rw [b56]
  have main : Evs (evC (cx56 callS11) n56_0 ⟨[(0, elX x), (1, elX y), (2, b), (3, .junk), (4, .junk), (5, .junk), (6, .junk), (7, .junk), (8, .junk), (11, .junk)], h⟩) (fun r => ∃ env t, r = (.ret, ⟨env, h ++ t⟩) ∧ mLoad ty66 (env.get 6) (h ++ t) = some (elX (polyX x y n g))) := by
    obtain ⟨env, he⟩ : ∃ env : Env, env = [(0, elX x), (1, elX y), (2, b), (3, .junk), (4, .junk), (5, .junk), (6, .junk), (7, .junk), (8, .junk), (11, .junk)] := ⟨_, rfl⟩
    rw [← he]
    have g0 : env.get 0 = elX x := by rw [he]; rfl
    have g1 : env.get 1 = elX y := by rw [he]; rfl
    have g2 : env.get 2 = b := by rw [he]; rfl
    clear he
    repeat (first
      | (with_reducible refine Evs.assoc ?_)
      | ((with_reducible refine Evs.some_bnd ?_); try dsimp only [sqK_nrm, sqK_exit, sqK_ret])
      | ((with_reducible apply Evs.bcndT); (focus (simp (disch := omega) [g0, g1, g2, zero_el] <;> omega)))
      | ((with_reducible apply Evs.bcndF); (focus (simp (disch := omega) [g0, g1, g2, zero_el] <;> omega)))
      | ((with_reducible apply Evs.step); (focus ((conv => lhs; simp (disch := omega) [g0, g1, g2, zero_el]); done)); try dsimp only)
      | (simp only [sn56, sqK_nrm, sqK_exit, sqK_ret, inBlk_nrm, inBlk_ret, inBlk_same]))
    refine Evs.bnd (Q := fun r => ∃ env' tr, r = (.exit 0, ⟨env', H56 h (polyX x y n g) y tr 0#128⟩) ∧ env'.get 3 = .ptr h.length 0 [] ty66 ∧ env'.get 6 = .ptr (h.length + 2) 0 [] ty66) ?_ ?_
    · refine Evs.up ((n + 15) / 16) (fun i s => ∃ env' tr b', s = ⟨env', H56 h (onX x y n g i) y tr 0#128⟩ ∧ env'.get 3 = .ptr h.length 0 [] ty66 ∧ env'.get 4 = .ptr (h.length + 1) 0 [] ty66 ∧ env'.get 6 = .ptr (h.length + 2) 0 [] ty66 ∧ env'.get 2 = b' ∧ Byt h b' (n - 16 * i) fun k => g (16 * i + k)) ?_ ?_
        ⟨_, [], b, rfl, by simp, by simp, by simp, by simp [g2], by simpa using hb⟩
      · rintro i s hi ⟨env', tr, b', rfl, e3, e4, e6, e2, hb'⟩
        have hl := hb'.len
        have he := hb'.elems
        have hpos : 0 < n - 16 * i := by omega
        obtain ⟨b2, f1, f2⟩ := hb'.from (l := min (n - 16 * i) 16) (by omega)
        unfold H56
        have hbl : elX (val16 fun k => if k < min (n - 16 * i) 16 then g (16 * i + k) else 0#8) = elX (val16 (blkF n g i)) := by
          congr 1
          refine val16_congr fun k hk => ?_
          unfold blkF
          by_cases hc : 16 * i + k < n
          · rw [if_pos (by omega), if_pos hc]
          · rw [if_neg (by omega), if_neg hc]
        repeat (first
          | (with_reducible refine Evs.assoc ?_)
          | ((with_reducible refine Evs.some_bnd ?_); try dsimp only [sqK_nrm, sqK_exit, sqK_ret])
          | ((with_reducible apply Evs.bcndT); (focus (simp (disch := omega) [e2, e3, e4, e6, hl, he, f1, hbl] <;> omega)))
          | ((with_reducible apply Evs.bcndF); (focus (simp (disch := omega) [e2, e3, e4, e6, hl, he, f1, hbl] <;> omega)))
          | ((with_reducible apply Evs.step); (focus ((conv => lhs; simp (disch := omega) [e2, e3, e4, e6, hl, he, f1, hbl]); done)); try dsimp only)
          | (simp only [sn56, sqK_nrm, sqK_exit, sqK_ret, inBlk_nrm, inBlk_ret, inBlk_same]))
        refine Evs.ret ⟨rfl, _, _, b2, rfl, by simp [e3], by simp [e4], by simp [e6], by simp, ?_⟩
        have q1 : n - 16 * i - min (n - 16 * i) 16 = n - 16 * (i + 1) := by omega
        rw [q1] at f2
        exact f2.congr fun k hk => by
          rw [show min (n - 16 * i) 16 = 16 by omega, show 16 * i + (16 + k) = 16 * (i + 1) + k by omega]
      · rintro s ⟨env', tr, b', rfl, e3, e4, e6, e2, hb'⟩
        have hl := hb'.len
        rw [show n - 16 * ((n + 15) / 16) = 0 by omega] at hl
        repeat (first
          | (with_reducible refine Evs.assoc ?_)
          | ((with_reducible refine Evs.some_bnd ?_); try dsimp only [sqK_nrm, sqK_exit, sqK_ret])
          | ((with_reducible apply Evs.bcndT); (focus (simp (disch := omega) [e2, hl] <;> omega)))
          | ((with_reducible apply Evs.bcndF); (focus (simp (disch := omega) [e2, hl] <;> omega)))
          | ((with_reducible apply Evs.step); (focus ((conv => lhs; simp (disch := omega) [e2, hl]); done)); try dsimp only)
          | (simp only [sn56, sqK_nrm, sqK_exit, sqK_ret, inBlk_nrm, inBlk_ret, inBlk_same]))
        exact Evs.ret ⟨by simp, _, _, rfl, by simp [e3], by simp [e6]⟩
    · rintro r ⟨env', tr, rfl, e3, e6⟩
      unfold H56
      repeat (first
        | (with_reducible refine Evs.assoc ?_)
        | ((with_reducible refine Evs.some_bnd ?_); try dsimp only [sqK_nrm, sqK_exit, sqK_ret])
        | ((with_reducible apply Evs.bcndT); (focus (simp (disch := omega) [e3, e6] <;> omega)))
        | ((with_reducible apply Evs.bcndF); (focus (simp (disch := omega) [e3, e6] <;> omega)))
        | ((with_reducible apply Evs.step); (focus ((conv => lhs; simp (disch := omega) [e3, e6]); done)); try dsimp only)
        | (simp only [sn56, sqK_nrm, sqK_exit, sqK_ret, inBlk_nrm, inBlk_ret, inBlk_same]))
      exact Evs.ret ⟨_, _, rfl, by simp [e6]⟩
  obtain ⟨r, hr, env, t, rfl, e0⟩ := main
  refine ⟨t, ?_⟩
  rw [hr]
  simp [e0, oneOrTuple]

noncomputable def c56 := conC (fun x : (BitVec 128) × (BitVec 128) × (AV) × (Nat) × (Nat → BitVec 8) => [elX x.1, elX x.2.1, x.2.2.1]) (fun (x : (BitVec 128) × (BitVec 128) × (AV) × (Nat) × (Nat → BitVec 8)) h => Byt h x.2.2.1 x.2.2.2.1 x.2.2.2.2 ∧ x.2.2.2.1 < 9223372036854775000) (fun (x : (BitVec 128) × (BitVec 128) × (AV) × (Nat) × (Nat → BitVec 8)) h => (elX (polyX x.1 x.2.1 x.2.2.2.1 x.2.2.2.2), h))
noncomputable def callS12 : Calling := addC callS11 56 c56
theorem c56_eq (a : BitVec 128) (y : BitVec 128) (b : AV) (n : Nat) (g : Nat → BitVec 8) (h : Heap) (hc : Byt h b n g ∧ n < 9223372036854775000) : c56 [elX a, elX y, b] h = some (elX (polyX a y n g), h) :=
  conC_eqP (enc := fun x : (BitVec 128) × (BitVec 128) × (AV) × (Nat) × (Nat → BitVec 8) => [elX x.1, elX x.2.1, x.2.2.1]) (P := fun (x : (BitVec 128) × (BitVec 128) × (AV) × (Nat) × (Nat → BitVec 8)) h => Byt h x.2.2.1 x.2.2.2.1 x.2.2.2.2 ∧ x.2.2.2.1 < 9223372036854775000) (a := (a, y, b, n, g)) (f := fun (x : (BitVec 128) × (BitVec 128) × (AV) × (Nat) × (Nat → BitVec 8)) h => (elX (polyX x.1 x.2.1 x.2.2.2.1 x.2.2.2.2), h)) (fun x y h hp hq e => by
    have e1 := elX_inj.1 (List.cons.inj e).1
    have e2 := elX_inj.1 (List.cons.inj (List.cons.inj e).2).1
    have e3 := (List.cons.inj (List.cons.inj (List.cons.inj e).2).2).1
    rw [e3] at hp
    obtain ⟨e4, e5⟩ := hp.1.det hq.1
    rw [e1, e2, e4] 
    rw [polyX_congr (by rw [← e4]; exact e5)]
    ) hc
theorem callS12_ok : CallOK Try.prog callS12 := addC_con callS11_ok k56 fun x h hx => by
  obtain ⟨t, ht⟩ := walk56 h _ _ _ _ _ hx.1 hx.2
  exact (s56 callS11_ok ht).drop0 t rfl
@[simp] theorem callS12_ne {f : Nat} (args : List AV) (h : Heap) (hf : f ≠ 56) : callS12 f args h = callS11 f args h := addC_ne _ _ _ args h hf
@[simp] theorem callS12_sne {f : Nat} (args : List AV) (h : Heap) (hf : f ≠ 56) : still callS12 f args h = still callS11 f args h := still_ne _ _ _ args h hf
theorem callS12_56 (a : BitVec 128) (y : BitVec 128) (b : AV) (n : Nat) (g : Nat → BitVec 8) (h : Heap) (hc : Byt h b n g ∧ n < 9223372036854775000) : callS12 56 [elX a, elX y, b] h = some (elX (polyX a y n g), h) := by
  unfold callS12; rw [addC_same]; exact c56_eq a y b n g h hc
theorem callS12_56s (a : BitVec 128) (y : BitVec 128) (b : AV) (n : Nat) (g : Nat → BitVec 8) (h : Heap) (hc : Byt h b n g ∧ n < 9223372036854775000) : still callS12 56 [elX a, elX y, b] h = some (elX (polyX a y n g), h) := still_of fun tt => callS12_56 a y b n g (h ++ tt) (⟨hc.1.app tt, hc.2⟩)

theorem walk33 (h : Heap) (y : Nat → BitVec 8) (b : AV) (n : Nat) (g : Nat → BitVec 8) (hb : Byt h b n g) (hn : n < 9223372036854775000) : ∃ t, evBody (cx33 callS12) Try.f33 n33_0 [arr 16 y, b] h = some (arr 16 (bytesX (polyX 0#128 (val16 y) n g)), h ++ t) := by
  rw [b33]
  have main : Evs (evC (cx33 callS12) n33_0 ⟨[(0, arr 16 y), (1, b), (2, .junk), (3, .junk), (4, .junk)], h⟩) (fun r => ∃ env t, r = (.ret, ⟨env, h ++ t⟩) ∧ mLoad (.arr 16 (.int .u8)) (env.get 4) (h ++ t) = some (arr 16 (bytesX (polyX 0#128 (val16 y) n g)))) := by
    obtain ⟨env, he⟩ : ∃ env : Env, env = [(0, arr 16 y), (1, b), (2, .junk), (3, .junk), (4, .junk)] := ⟨_, rfl⟩
    rw [← he]
    have g0 : env.get 0 = arr 16 y := by rw [he]; rfl
    have g1 : env.get 1 = b := by rw [he]; rfl
    clear he
    have k56 : ∀ (x y : BitVec 128) (t : Heap), callS12 56 [elX x, elX y, b] (h ++ t) = some (elX (polyX x y n g), h ++ t) := fun x y t => callS12_56 x y b n g (h ++ t) ⟨hb.app t, hn⟩
    repeat (first
      | (with_reducible refine Evs.assoc ?_)
      | ((with_reducible refine Evs.some_bnd ?_); try dsimp only [sqK_nrm, sqK_exit, sqK_ret])
      | ((with_reducible apply Evs.bcndT); (focus (simp (disch := omega) [g0, g1, k56, fill0] <;> omega)))
      | ((with_reducible apply Evs.bcndF); (focus (simp (disch := omega) [g0, g1, k56, fill0] <;> omega)))
      | ((with_reducible apply Evs.step); (focus ((conv => lhs; simp (disch := omega) [g0, g1, k56, fill0]); done)); try dsimp only)
      | (simp only [sn33, sqK_nrm, sqK_exit, sqK_ret, inBlk_nrm, inBlk_ret, inBlk_same]))
    exact Evs.ret ⟨_, _, rfl, by simp⟩
  obtain ⟨r, hr, env, t, rfl, e0⟩ := main
  refine ⟨t, ?_⟩
  rw [hr]
  simp [e0, oneOrTuple]

noncomputable def c33 := conC (fun x : (Nat → BitVec 8) × (AV) × (Nat) × (Nat → BitVec 8) => [arr 16 x.1, x.2.1]) (fun (x : (Nat → BitVec 8) × (AV) × (Nat) × (Nat → BitVec 8)) h => Byt h x.2.1 x.2.2.1 x.2.2.2 ∧ x.2.2.1 < 9223372036854775000) (fun (x : (Nat → BitVec 8) × (AV) × (Nat) × (Nat → BitVec 8)) h => (arr 16 (bytesX (polyX 0#128 (val16 x.1) x.2.2.1 x.2.2.2)), h))
noncomputable def callS13 : Calling := addC callS12 33 c33
theorem c33_eq (y : Nat → BitVec 8) (b : AV) (n : Nat) (g : Nat → BitVec 8) (h : Heap) (hc : Byt h b n g ∧ n < 9223372036854775000) : c33 [arr 16 y, b] h = some (arr 16 (bytesX (polyX 0#128 (val16 y) n g)), h) :=
  conC_eqP (enc := fun x : (Nat → BitVec 8) × (AV) × (Nat) × (Nat → BitVec 8) => [arr 16 x.1, x.2.1]) (P := fun (x : (Nat → BitVec 8) × (AV) × (Nat) × (Nat → BitVec 8)) h => Byt h x.2.1 x.2.2.1 x.2.2.2 ∧ x.2.2.1 < 9223372036854775000) (a := (y, b, n, g)) (f := fun (x : (Nat → BitVec 8) × (AV) × (Nat) × (Nat → BitVec 8)) h => (arr 16 (bytesX (polyX 0#128 (val16 x.1) x.2.2.1 x.2.2.2)), h)) (fun x y h hp hq e => by
    have e1 := arr_inj.1 (List.cons.inj e).1
    have e3 := (List.cons.inj (List.cons.inj e).2).1
    rw [e3] at hp
    obtain ⟨e4, e5⟩ := hp.1.det hq.1
    rw [val16_congr e1, e4]
    rw [polyX_congr (by rw [← e4]; exact e5)]
    ) hc
theorem callS13_ok : CallOK Try.prog callS13 := addC_con callS12_ok k33 fun x h hx => by
  obtain ⟨t, ht⟩ := walk33 h _ _ _ _ hx.1 hx.2
  exact (s33 callS12_ok ht).drop0 t rfl
@[simp] theorem callS13_ne {f : Nat} (args : List AV) (h : Heap) (hf : f ≠ 33) : callS13 f args h = callS12 f args h := addC_ne _ _ _ args h hf
@[simp] theorem callS13_sne {f : Nat} (args : List AV) (h : Heap) (hf : f ≠ 33) : still callS13 f args h = still callS12 f args h := still_ne _ _ _ args h hf
theorem callS13_33 (y : Nat → BitVec 8) (b : AV) (n : Nat) (g : Nat → BitVec 8) (h : Heap) (hc : Byt h b n g ∧ n < 9223372036854775000) : callS13 33 [arr 16 y, b] h = some (arr 16 (bytesX (polyX 0#128 (val16 y) n g)), h) := by
  unfold callS13; rw [addC_same]; exact c33_eq y b n g h hc
theorem callS13_33s (y : Nat → BitVec 8) (b : AV) (n : Nat) (g : Nat → BitVec 8) (h : Heap) (hc : Byt h b n g ∧ n < 9223372036854775000) : still callS13 33 [arr 16 y, b] h = some (arr 16 (bytesX (polyX 0#128 (val16 y) n g)), h) := still_of fun tt => callS13_33 y b n g (h ++ tt) (⟨hc.1.app tt, hc.2⟩)

end Go.Vab

/- How the evaluator reads the functions of a seat. Printed by wip/tools/gen.py (own work). -/
namespace Go.Vab
open Go Go.Proofs
/-! vestry/siv.tag -/
noncomputable def cx45 (call : Calling) : Ctx := ⟨call, TT, 58, [16, 17, 18, 19, 20, 21, 22, 23, 24, 25, 26, 27, 28, 29, 30, 31, 32, 33, 34, 35, 36, 37, 38, 42, 43, 44, 45, 46, 47, 48, 49, 50, 51, 52, 53, 54, 55, 56, 57]⟩
noncomputable def n45_0 : Code := bodyOf Try.f45
noncomputable def n45_1 : Code := cR n45_0
noncomputable def n45_2 : Code := cR n45_1
noncomputable def n45_3 : Code := cR n45_2
noncomputable def n45_4 : Code := cR n45_3
noncomputable def n45_5 : Code := cL n45_4
noncomputable def n45_6 : Code := cR n45_5
noncomputable def n45_7 : Code := cB n45_6
noncomputable def n45_8 : Code := cB n45_7
noncomputable def n45_9 : Code := cR n45_8
noncomputable def n45_10 : Code := cL n45_9
noncomputable def n45_11 : Code := cL n45_10
noncomputable def n45_12 : Code := cR n45_10
noncomputable def n45_13 : Code := cR n45_9
noncomputable def n45_14 : Code := cL n45_13
noncomputable def n45_15 : Code := cB n45_14
noncomputable def n45_16 : Code := cR n45_15
noncomputable def n45_17 : Code := cR n45_13
noncomputable def n45_18 : Code := cR n45_4
noncomputable def n45_19 : Code := cR n45_18
noncomputable def n45_20 : Code := cR n45_19
@[simp] theorem n45_11_eq (call : Calling) (s : St) : evC (cx45 call) n45_11 s = some (.nrm, s) := xK
@[simp] theorem n45_12_eq (call : Calling) (s : St) : evC (cx45 call) n45_12 s = some (.exit 0, s) := xX 0
@[simp] theorem n45_10_eq (call : Calling) (s : St) : evC (cx45 call) n45_10 s = cnd (s.env.get 41) (evC (cx45 call) n45_11 s) (evC (cx45 call) n45_12 s) := xC 41 _ _
@[simp] theorem n45_16_eq (call : Calling) (env : Env) (h : Heap) : evC (cx45 call) n45_16 ⟨env, h⟩ = (bnd (pureV h (mIdxA (.arr 16 (.int .u8)) (env.get 13) (env.get 14))) fun r1 => bnd (pureV r1.2 (mLoad (.int .u8) r1.1 r1.2)) fun r2 => bnd (pureV r2.2 (mBin .xor r2.1 (env.get 15))) fun r4 => bnd (pureV r4.2 (mIdxA (.arr 16 (.int .u8)) (env.get 13) (env.get 14))) fun r5 => bnd (stU (.int .u8) r5.1 r4.1 r5.2) fun r6 => some (.nrm, ⟨env, r6.2⟩)) := (xR 7 (cOps n45_16)).trans (by
  refine opsK_0 ?_
  refine oT 44 (env.get 14) ?_
  refine oP 45 fun r1 => ?_
  refine oP 46 fun r2 => ?_
  refine oT 47 (env.get 15) ?_
  refine oP 48 fun r4 => ?_
  refine oP 49 fun r5 => ?_
  refine oN fun r6 => ?_
  exact oE)
@[simp] theorem n45_15_eq (call : Calling) (env : Env) (h : Heap) : evC (cx45 call) n45_15 ⟨env, h⟩ = (bnd (pureV h (mIndexA (.arr 12 (.int .u8)) (env.get 39) (env.get 40))) fun r1 => evC (cx45 call) n45_16 ⟨(Env.put (Env.put env 14 (env.get 40)) 15 r1.1), r1.2⟩) := (xSR 6 (cOps (cL n45_15)) (cR n45_15)).trans (by
  refine opsK_0 ?_
  refine oT 42 (env.get 40) ?_
  refine oP 43 fun r1 => ?_
  refine oT 14 (env.get 40) ?_
  refine oT 15 r1.1 ?_
  exact oE)
@[simp] theorem n45_14_eq (call : Calling) (s : St) : evC (cx45 call) n45_14 s = bnd (evC (cx45 call) n45_15 s) fun r => some (inBlk 1 r) := xB 1 _
@[simp] theorem n45_17_eq (call : Calling) (env : Env) (h : Heap) : evC (cx45 call) n45_17 ⟨env, h⟩ = (bnd (pureV h (mBin .add (env.get 40) (nat 1))) fun r0 => some (.nrm, ⟨(Env.put env 40 r0.1), r0.2⟩)) := (xR 8 (cOps n45_17)).trans (by
  refine opsK_0 ?_
  refine oP 50 fun r0 => ?_
  refine oT 40 r0.1 ?_
  exact oE)
@[simp] theorem n45_13_eq (call : Calling) (s : St) : evC (cx45 call) n45_13 s = bnd (evC (cx45 call) n45_14 s) (sqK (evC (cx45 call) n45_17)) := xS _ _
@[simp] theorem n45_9_eq (call : Calling) (s : St) : evC (cx45 call) n45_9 s = bnd (evC (cx45 call) n45_10 s) (sqK (evC (cx45 call) n45_13)) := xS _ _
@[simp] theorem n45_8_eq (call : Calling) (env : Env) (h : Heap) : evC (cx45 call) n45_8 ⟨env, h⟩ = (bnd (pureV h (mBin .lss (env.get 40) (nat 12))) fun r0 => evC (cx45 call) n45_9 ⟨(Env.put env 41 r0.1), r0.2⟩) := (xSR 5 (cOps (cL n45_8)) (cR n45_8)).trans (by
  refine opsK_0 ?_
  refine oP 41 fun r0 => ?_
  exact oE)
@[simp] theorem n45_7_eq (call : Calling) (s : St) : evC (cx45 call) n45_7 s = evLoop (evC (cx45 call) n45_8) s := xL _
@[simp] theorem n45_6_eq (call : Calling) (s : St) : evC (cx45 call) n45_6 s = bnd (evC (cx45 call) n45_7 s) fun r => some (inBlk 0 r) := xB 0 _
@[simp] theorem n45_5_eq (call : Calling) (env : Env) (h : Heap) : evC (cx45 call) n45_5 ⟨env, h⟩ = (bnd (pureV h (mLoad (.arr 12 (.int .u8)) (env.get 7) h)) fun r0 => evC (cx45 call) n45_6 ⟨(Env.put (Env.put env 39 r0.1) 40 (nat 0)), r0.2⟩) := (xSR 4 (cOps (cL n45_5)) (cR n45_5)).trans (by
  refine opsK_0 ?_
  refine oP 39 fun r0 => ?_
  refine oT 40 (nat 0) ?_
  exact oE)
@[simp] theorem n45_20_eq (call : Calling) (s : St) : evC (cx45 call) n45_20 s = some (.ret, s) := xE
@[simp] theorem n45_19_eq (call : Calling) (env : Env) (h : Heap) : evC (cx45 call) n45_19 ⟨env, h⟩ = (bnd (pureV h (mLoad (.arr 32 (.int .u8)) (env.get 6) h)) fun r0 => bnd (pureV r0.2 (mLoad (.arr 16 (.int .u8)) (env.get 13) r0.2)) fun r1 => bnd (call 19 [r0.1, r1.1] r1.2) fun r2 => bnd (stU (.arr 16 (.int .u8)) (env.get 10) r2.1 r2.2) fun r3 => evC (cx45 call) n45_20 ⟨env, r3.2⟩) := (xSR 10 (cOps (cL n45_19)) (cR n45_19)).trans (by
  refine opsK_0 ?_
  refine oP 55 fun r0 => ?_
  refine oP 56 fun r1 => ?_
  refine oP 57 fun r2 => ?_
  refine oN fun r3 => ?_
  exact oE)
@[simp] theorem n45_18_eq (call : Calling) (env : Env) (h : Heap) : evC (cx45 call) n45_18 ⟨env, h⟩ = (bnd (pureV h (mIdxA (.arr 16 (.int .u8)) (env.get 13) (nat 15))) fun r0 => bnd (pureV r0.2 (mLoad (.int .u8) r0.1 r0.2)) fun r1 => bnd (pureV r1.2 (mBin .and r1.1 (u8 127#8))) fun r2 => bnd (pureV r2.2 (mIdxA (.arr 16 (.int .u8)) (env.get 13) (nat 15))) fun r3 => bnd (stU (.int .u8) r3.1 r2.1 r3.2) fun r4 => evC (cx45 call) n45_19 ⟨env, r4.2⟩) := (xSR 9 (cOps (cL n45_18)) (cR n45_18)).trans (by
  refine opsK_0 ?_
  refine oP 51 fun r0 => ?_
  refine oP 52 fun r1 => ?_
  refine oP 53 fun r2 => ?_
  refine oP 54 fun r3 => ?_
  refine oN fun r4 => ?_
  exact oE)
@[simp] theorem n45_4_eq (call : Calling) (s : St) : evC (cx45 call) n45_4 s = bnd (evC (cx45 call) n45_5 s) (sqK (evC (cx45 call) n45_18)) := xS _ _
theorem n45_3_ok : drawOk (cOps (cL n45_3)).toList = true := by kernel_rfl
@[simp] theorem n45_3_eq (call : Calling) (env : Env) (h : Heap) : evC (cx45 call) n45_3 ⟨env, h⟩ = (bnd (pureV h (mLoad ty66 (env.get 12) h)) fun r0 => bnd (pureV r0.2 (mLenS (env.get 3))) fun r2 => bnd (pureV r2.2 (mConv .u64 r2.1)) fun r3 => bnd (pureV r3.2 (mBin .mul (u64 8#64) r3.1)) fun r4 => bnd (pureV r4.2 (mLenS (env.get 4))) fun r6 => bnd (pureV r6.2 (mConv .u64 r6.1)) fun r7 => bnd (pureV r7.2 (mBin .mul (u64 8#64) r7.1)) fun r8 => bnd (pureV r8.2 (fillRow ty66 (.node [(u64 0#64), (u64 0#64)]) [(0, r4.1), (1, r8.1)])) fun r9 => bnd (still call 59 [r0.1, r9.1] r9.2) fun r10 => bnd (pureV r10.2 (mLoad ty66 (env.get 11) r10.2)) fun r11 => bnd (still call 51 [r10.1, r11.1] r11.2) fun r12 => bnd (still call 52 [r12.1] r12.2) fun r13 => bnd (mNew (.arr 16 (.int .u8)) (arr 16 fun _ => 0#8) r13.2) fun r14 => bnd (stU (.arr 16 (.int .u8)) r14.1 r13.1 r14.2) fun r15 => evC (cx45 call) n45_4 ⟨(Env.put env 13 r14.1), r15.2⟩) := (xSD 3 (cOps (cL n45_3)) (cR n45_3) n45_3_ok).trans (by
  refine opsK_0 ?_
  refine oP 25 fun r0 => ?_
  refine oT 26 (env.get 3) ?_
  refine oP 27 fun r2 => ?_
  refine oP 28 fun r3 => ?_
  refine oP 29 fun r4 => ?_
  refine oT 30 (env.get 4) ?_
  refine oP 31 fun r6 => ?_
  refine oP 32 fun r7 => ?_
  refine oP 33 fun r8 => ?_
  refine oP 34 fun r9 => ?_
  refine oP 35 fun r10 => ?_
  refine oP 36 fun r11 => ?_
  refine oP 37 fun r12 => ?_
  refine oP 38 fun r13 => ?_
  refine oP 13 fun r14 => ?_
  refine oN fun r15 => ?_
  exact oE)
theorem n45_2_ok : drawOk (cOps (cL n45_2)).toList = true := by kernel_rfl
@[simp] theorem n45_2_eq (call : Calling) (env : Env) (h : Heap) : evC (cx45 call) n45_2 ⟨env, h⟩ = (bnd (pureV h (fillRow ty66 (.node [(u64 0#64), (u64 0#64)]) [])) fun r0 => bnd (pureV r0.2 (mLoad ty66 (env.get 11) r0.2)) fun r1 => bnd (still call 56 [r0.1, r1.1, (env.get 3)] r1.2) fun r3 => bnd (pureV r3.2 (mLoad ty66 (env.get 11) r3.2)) fun r4 => bnd (still call 56 [r3.1, r4.1, (env.get 4)] r4.2) fun r6 => bnd (mNew ty66 (.node [(u64 0#64), (u64 0#64)]) r6.2) fun r7 => bnd (stU ty66 r7.1 r6.1 r7.2) fun r8 => evC (cx45 call) n45_3 ⟨(Env.put env 12 r7.1), r8.2⟩) := (xSD 2 (cOps (cL n45_2)) (cR n45_2) n45_2_ok).trans (by
  refine opsK_0 ?_
  refine oP 18 fun r0 => ?_
  refine oP 19 fun r1 => ?_
  refine oT 20 (env.get 3) ?_
  refine oP 21 fun r3 => ?_
  refine oP 22 fun r4 => ?_
  refine oT 23 (env.get 4) ?_
  refine oP 24 fun r6 => ?_
  refine oP 12 fun r7 => ?_
  refine oN fun r8 => ?_
  exact oE)
@[simp] theorem n45_1_eq (call : Calling) (env : Env) (h : Heap) : evC (cx45 call) n45_1 ⟨env, h⟩ = (bnd (pureV h (mLoad (.arr 16 (.int .u8)) (env.get 5) h)) fun r0 => bnd (call 50 [r0.1] r0.2) fun r1 => bnd (mNew ty66 (.node [(u64 0#64), (u64 0#64)]) r1.2) fun r2 => bnd (stU ty66 r2.1 r1.1 r2.2) fun r3 => evC (cx45 call) n45_2 ⟨(Env.put env 11 r2.1), r3.2⟩) := (xSR 1 (cOps (cL n45_1)) (cR n45_1)).trans (by
  refine opsK_0 ?_
  refine oP 16 fun r0 => ?_
  refine oP 17 fun r1 => ?_
  refine oP 11 fun r2 => ?_
  refine oN fun r3 => ?_
  exact oE)
@[simp] theorem n45_0_eq (call : Calling) (env : Env) (h : Heap) : evC (cx45 call) n45_0 ⟨env, h⟩ = (bnd (mNew (.arr 16 (.int .u8)) (env.get 0) h) fun r0 => bnd (mNew (.arr 32 (.int .u8)) (env.get 1) r0.2) fun r1 => bnd (mNew (.arr 12 (.int .u8)) (env.get 2) r1.2) fun r2 => bnd (mNew (.arr 16 (.int .u8)) (arr 16 fun _ => 0#8) r2.2) fun r3 => evC (cx45 call) n45_1 ⟨(Env.put (Env.put (Env.put (Env.put env 5 r0.1) 6 r1.1) 7 r2.1) 10 r3.1), r3.2⟩) := (xSR 0 (cOps (cL n45_0)) (cR n45_0)).trans (by
  refine opsK_0 ?_
  refine oP 5 fun r0 => ?_
  refine oP 6 fun r1 => ?_
  refine oP 7 fun r2 => ?_
  refine oP 10 fun r3 => ?_
  exact oE)
theorem b45 (call : Calling) (a0 a1 a2 a3 a4 : AV) (h : Heap) : evBody (cx45 call) Try.f45 n45_0 [a0, a1, a2, a3, a4] h = bnd (evC (cx45 call) n45_0 ⟨[(0, a0), (1, a1), (2, a2), (3, a3), (4, a4), (5, .junk), (6, .junk), (7, .junk), (8, .junk), (9, .junk), (10, .junk), (11, .junk), (12, .junk), (13, .junk), (14, .junk), (15, .junk), (39, .junk), (40, .junk), (41, .junk)], h⟩) (retK fun s => bnd (bnd (mLoad (.arr 16 (.int .u8)) (s.env.get 10) s.heap) fun v => bnd (some []) fun vs => some (v :: vs)) fun vs => some (oneOrTuple vs)) := by kernel_rfl
theorem fn45 : Try.prog.funcs[45]? = some Try.f45 := by kernel_rfl
theorem k45 : Callable Try.prog 45 := ⟨Try.f45, fn45, by kernel_rfl, by kernel_rfl⟩
theorem s45 {call : Calling} (hc : CallOK Try.prog call) {args : List AV} {h h' : Heap} {v : AV} (he : evBody (cx45 call) Try.f45 n45_0 args h = some (v, h')) : Spec Try.prog 45 args h v h' := body_sound (C := cx45 call) TT_ok hc mixed_ok fn45 (by kernel_rfl) (by kernel_rfl) he
def sn45 := And.intro n45_11_eq (And.intro n45_12_eq (And.intro n45_10_eq (And.intro n45_16_eq (And.intro n45_15_eq (And.intro n45_14_eq (And.intro n45_17_eq (And.intro n45_13_eq (And.intro n45_9_eq (And.intro n45_8_eq (And.intro n45_7_eq (And.intro n45_6_eq (And.intro n45_5_eq (And.intro n45_20_eq (And.intro n45_19_eq (And.intro n45_18_eq (And.intro n45_4_eq (And.intro n45_3_eq (And.intro n45_2_eq (And.intro n45_1_eq (n45_0_eq))))))))))))))))))))
end Go.Vab

/-
  The tag, walked.
-/
namespace Go.Vab
open Go Go.Proofs

@[simp] theorem mIndexA_arr (n : Nat) (g : Nat → BitVec 8) (j : Nat) : mIndexA (.arr n (.int .u8)) (arr n g) (nat j) = if j < n then some (u8 (g j)) else none := by
  simp [mIndexA]

/-- The lengths, in bits. -/
def lenX (na nt : Nat) : BitVec 128 := (8#64 * BitVec.ofNat 64 nt) ++ (8#64 * BitVec.ofNat 64 na)
theorem elX_app (lo hi : BitVec 64) : elX (hi ++ lo) = el lo hi := by
  unfold elX
  congr 1
  · apply BitVec.eq_of_getLsbD_eq
    intro i hi
    rw [BitVec.getLsbD_setWidth, BitVec.getLsbD_append]
    simp [hi]
  · apply BitVec.eq_of_getLsbD_eq
    intro i hi
    rw [BitVec.getLsbD_setWidth, BitVec.getLsbD_ushiftRight, BitVec.getLsbD_append]
    simp [hi]
def sumX (H : BitVec 128) (na : Nat) (a : Nat → BitVec 8) (nt : Nat) (t : Nat → BitVec 8) : BitVec 128 :=
  dotX (polyX (polyX 0#128 H na a) H nt t ^^^ lenX na nt) H
def mixF (S nonce : Nat → BitVec 8) : Nat → BitVec 8 := fun j => if j < 12 then S j ^^^ nonce j else if j = 15 then S j &&& 127#8 else S j
def tagF (block key nonce : Nat → BitVec 8) (na : Nat) (a : Nat → BitVec 8) (nt : Nat) (t : Nat → BitVec 8) : Nat → BitVec 8 :=
  encF (wd key) (mixF (bytesX (sumX (val16 block) na a nt t)) nonce)
theorem tagF_congr {b b' k k' n n' : Nat → BitVec 8} {na : Nat} {a a' : Nat → BitVec 8} {nt : Nat} {t t' : Nat → BitVec 8} (hb : ∀ i, i < 16 → b i = b' i) (hk : ∀ i, i < 32 → k i = k' i) (hn : ∀ i, i < 12 → n i = n' i)
    (ha : ∀ i, i < na → a i = a' i) (ht : ∀ i, i < nt → t i = t' i) : ∀ j, j < 16 → tagF b k n na a nt t j = tagF b' k' n' na a' nt t' j :=
  encF_congr (fun i _ p hp => wd_congr hk i p hp) fun j hj => by
    unfold mixF sumX
    rw [val16_congr hb, polyX_congr ha, polyX_congr ht]
    split
    · rw [hn j (by assumption)]
    · rfl

def H45 (h : Heap) (block key nonce : Nat → BitVec 8) (p : BitVec 128) (f : Nat → BitVec 8) : Heap := h ++ [⟨arr 16 block, 0, .own⟩, ⟨arr 32 key, 0, .own⟩, ⟨arr 12 nonce, 0, .own⟩, ⟨arr 16 fun _ => 0#8, 0, .own⟩, ⟨elX (val16 block), 0, .own⟩, ⟨elX p, 0, .own⟩, ⟨arr 16 f, 0, .own⟩]
def B45 (L : Nat) (env : Env) : Prop := env.get 6 = .ptr (L + 1) 0 [] (.arr 32 (.int .u8)) ∧ env.get 10 = .ptr (L + 3) 0 [] (.arr 16 (.int .u8)) ∧ env.get 13 = .ptr (L + 6) 0 [] (.arr 16 (.int .u8))
theorem walk45 (h : Heap) (block key nonce : Nat → BitVec 8) (xa xt : AV) (na nt : Nat) (a t : Nat → BitVec 8) (ha : Byt h xa na a) (ht : Byt h xt nt t) (hna : na < 9223372036854775000) (hnt : nt < 9223372036854775000) :
    ∃ tr, evBody (cx45 callS13) Try.f45 n45_0 [arr 16 block, arr 32 key, arr 12 nonce, xa, xt] h = some (arr 16 (tagF block key nonce na a nt t), h ++ tr) := by
  rw [b45]
  have main : Evs (evC (cx45 callS13) n45_0 ⟨[(0, arr 16 block), (1, arr 32 key), (2, arr 12 nonce), (3, xa), (4, xt), (5, .junk), (6, .junk), (7, .junk), (8, .junk), (9, .junk), (10, .junk), (11, .junk), (12, .junk), (13, .junk), (14, .junk), (15, .junk), (39, .junk), (40, .junk), (41, .junk)], h⟩) (fun r => ∃ env tr, r = (.ret, ⟨env, h ++ tr⟩) ∧ mLoad (.arr 16 (.int .u8)) (env.get 10) (h ++ tr) = some (arr 16 (tagF block key nonce na a nt t))) := by
    obtain ⟨env, he⟩ : ∃ env : Env, env = [(0, arr 16 block), (1, arr 32 key), (2, arr 12 nonce), (3, xa), (4, xt), (5, .junk), (6, .junk), (7, .junk), (8, .junk), (9, .junk), (10, .junk), (11, .junk), (12, .junk), (13, .junk), (14, .junk), (15, .junk), (39, .junk), (40, .junk), (41, .junk)] := ⟨_, rfl⟩
    rw [← he]
    have g0 : env.get 0 = arr 16 block := by rw [he]; rfl
    have g1 : env.get 1 = arr 32 key := by rw [he]; rfl
    have g2 : env.get 2 = arr 12 nonce := by rw [he]; rfl
    have g3 : env.get 3 = xa := by rw [he]; rfl
    have g4 : env.get 4 = xt := by rw [he]; rfl
    clear he
    have k56a : ∀ (x y : BitVec 128) (t : Heap), still callS12 56 [elX x, elX y, xa] (h ++ t) = some (elX (polyX x y na a), h ++ t) := fun x y t => callS12_56s x y xa na a (h ++ t) ⟨ha.app t, hna⟩
    have k56t : ∀ (x y : BitVec 128) (tt : Heap), still callS12 56 [elX x, elX y, xt] (h ++ tt) = some (elX (polyX x y nt t), h ++ tt) := fun x y tt => callS12_56s x y xt nt t (h ++ tt) ⟨ht.app tt, hnt⟩
    have la := ha.len
    have lt := ht.len
    have fl : fillRow ty66 (.node [u64 0#64, u64 0#64]) [(0, u64 (8#64 * BitVec.ofNat 64 na)), (1, u64 (8#64 * BitVec.ofNat 64 nt))] = some (elX (lenX na nt)) := by
      rw [fill_el']; unfold lenX; rw [elX_app]
    repeat (first
      | (with_reducible refine Evs.assoc ?_)
      | ((with_reducible refine Evs.some_bnd ?_); try dsimp only [sqK_nrm, sqK_exit, sqK_ret])
      | ((with_reducible apply Evs.bcndT); (focus (simp (disch := omega) [g0, g1, g2, g3, g4, k56a, k56t, la, lt, fl, fill0, zero_el] <;> omega)))
      | ((with_reducible apply Evs.bcndF); (focus (simp (disch := omega) [g0, g1, g2, g3, g4, k56a, k56t, la, lt, fl, fill0, zero_el] <;> omega)))
      | ((with_reducible apply Evs.step); (focus ((conv => lhs; simp (disch := omega) [g0, g1, g2, g3, g4, k56a, k56t, la, lt, fl, fill0, zero_el]); done)); try dsimp only)
      | (simp only [sn45, sqK_nrm, sqK_exit, sqK_ret, inBlk_nrm, inBlk_ret, inBlk_same]))
    refine Evs.bnd (Q := fun r => ∃ env' f, r = (.exit 0, ⟨env', H45 h block key nonce (polyX (polyX 0#128 (val16 block) na a) (val16 block) nt t) f⟩) ∧ B45 h.length env' ∧ ∀ j, j < 16 → f j = if j < 12 then bytesX (sumX (val16 block) na a nt t) j ^^^ nonce j else bytesX (sumX (val16 block) na a nt t) j) ?_ ?_
    · refine Evs.up 12 (fun i s => ∃ env' f, s = ⟨env', H45 h block key nonce (polyX (polyX 0#128 (val16 block) na a) (val16 block) nt t) f⟩ ∧ B45 h.length env' ∧ env'.get 39 = arr 12 nonce ∧ env'.get 40 = nat i ∧ ∀ j, j < 16 → f j = if j < i then bytesX (sumX (val16 block) na a nt t) j ^^^ nonce j else bytesX (sumX (val16 block) na a nt t) j) ?_ ?_
        ⟨_, _, rfl, ⟨by simp, by simp, by simp⟩, by simp, by simp, fun j _ => by simp [sumX]⟩
      · rintro i s hi ⟨env', f, rfl, ⟨e6, e10, e13⟩, e39, e40, hf⟩
        unfold H45
        repeat (first
          | (with_reducible refine Evs.assoc ?_)
          | ((with_reducible refine Evs.some_bnd ?_); try dsimp only [sqK_nrm, sqK_exit, sqK_ret])
          | ((with_reducible apply Evs.bcndT); (focus (simp (disch := omega) [e13, e39, e40] <;> omega)))
          | ((with_reducible apply Evs.bcndF); (focus (simp (disch := omega) [e13, e39, e40] <;> omega)))
          | ((with_reducible apply Evs.step); (focus ((conv => lhs; simp (disch := omega) [e13, e39, e40]); done)); try dsimp only)
          | (simp only [sn45, sqK_nrm, sqK_exit, sqK_ret, inBlk_nrm, inBlk_ret, inBlk_same]))
        refine Evs.ret ⟨rfl, _, _, rfl, ⟨by simp [e6], by simp [e10], by simp [e13]⟩, by simp [e39], by simp, fun j hj => ?_⟩
        by_cases hji : j = i
        · subst hji
          rw [upd_same, hf j hj, if_neg (Nat.lt_irrefl _), if_pos (Nat.lt_succ_self _)]
        · rw [upd_ne _ _ hji, hf j hj]
          by_cases hlt : j < i
          · rw [if_pos hlt, if_pos (by omega)]
          · rw [if_neg hlt, if_neg (by omega)]
      · rintro s ⟨env', f, rfl, hB, e39, e40, hf⟩
        repeat (first
          | (with_reducible refine Evs.assoc ?_)
          | ((with_reducible refine Evs.some_bnd ?_); try dsimp only [sqK_nrm, sqK_exit, sqK_ret])
          | ((with_reducible apply Evs.bcndT); (focus (simp (disch := omega) [e40] <;> omega)))
          | ((with_reducible apply Evs.bcndF); (focus (simp (disch := omega) [e40] <;> omega)))
          | ((with_reducible apply Evs.step); (focus ((conv => lhs; simp (disch := omega) [e40]); done)); try dsimp only)
          | (simp only [sn45, sqK_nrm, sqK_exit, sqK_ret, inBlk_nrm, inBlk_ret, inBlk_same]))
        exact Evs.ret ⟨by simp, _, _, rfl, ⟨by simp [hB.1], by simp [hB.2.1], by simp [hB.2.2]⟩, hf⟩
    · rintro r ⟨env', f, rfl, ⟨e6, e10, e13⟩, hf⟩
      unfold H45
      repeat (first
        | (with_reducible refine Evs.assoc ?_)
        | ((with_reducible refine Evs.some_bnd ?_); try dsimp only [sqK_nrm, sqK_exit, sqK_ret])
        | ((with_reducible apply Evs.bcndT); (focus (simp (disch := omega) [e6, e10, e13] <;> omega)))
        | ((with_reducible apply Evs.bcndF); (focus (simp (disch := omega) [e6, e10, e13] <;> omega)))
        | ((with_reducible apply Evs.step); (focus ((conv => lhs; simp (disch := omega) [e6, e10, e13]); done)); try dsimp only)
        | (simp only [sn45, sqK_nrm, sqK_exit, sqK_ret, inBlk_nrm, inBlk_ret, inBlk_same]))
      refine Evs.ret ⟨_, _, rfl, ?_⟩
      simp only [e10]
      simp
      refine arr_congr fun j hj => ?_
      unfold tagF
      refine encF_congr (fun i _ p hp => rfl) (fun j hj => ?_) j hj
      unfold mixF
      by_cases h15 : j = 15
      · subst h15
        rw [upd_same, hf 15 (by omega)]; rfl
      · rw [upd_ne _ _ h15, hf j hj, if_neg h15]
  obtain ⟨r, hr, env, t, rfl, e0⟩ := main
  refine ⟨t, ?_⟩
  rw [hr]
  simp [e0, oneOrTuple]

noncomputable def c45 := conC (fun x : (Nat → BitVec 8) × (Nat → BitVec 8) × (Nat → BitVec 8) × (AV) × (AV) × (Nat) × (Nat) × (Nat → BitVec 8) × (Nat → BitVec 8) => [arr 16 x.1, arr 32 x.2.1, arr 12 x.2.2.1, x.2.2.2.1, x.2.2.2.2.1]) (fun (x : (Nat → BitVec 8) × (Nat → BitVec 8) × (Nat → BitVec 8) × (AV) × (AV) × (Nat) × (Nat) × (Nat → BitVec 8) × (Nat → BitVec 8)) h => Byt h x.2.2.2.1 x.2.2.2.2.2.1 x.2.2.2.2.2.2.2.1 ∧ Byt h x.2.2.2.2.1 x.2.2.2.2.2.2.1 x.2.2.2.2.2.2.2.2 ∧ x.2.2.2.2.2.1 < 9223372036854775000 ∧ x.2.2.2.2.2.2.1 < 9223372036854775000) (fun (x : (Nat → BitVec 8) × (Nat → BitVec 8) × (Nat → BitVec 8) × (AV) × (AV) × (Nat) × (Nat) × (Nat → BitVec 8) × (Nat → BitVec 8)) h => (arr 16 (tagF x.1 x.2.1 x.2.2.1 x.2.2.2.2.2.1 x.2.2.2.2.2.2.2.1 x.2.2.2.2.2.2.1 x.2.2.2.2.2.2.2.2), h))
noncomputable def callS14 : Calling := addC callS13 45 c45
theorem c45_eq (bl : Nat → BitVec 8) (k : Nat → BitVec 8) (n : Nat → BitVec 8) (xa : AV) (xt : AV) (na : Nat) (nt : Nat) (a : Nat → BitVec 8) (t : Nat → BitVec 8) (h : Heap) (hc : Byt h xa na a ∧ Byt h xt nt t ∧ na < 9223372036854775000 ∧ nt < 9223372036854775000) : c45 [arr 16 bl, arr 32 k, arr 12 n, xa, xt] h = some (arr 16 (tagF bl k n na a nt t), h) :=
  conC_eqP (enc := fun x : (Nat → BitVec 8) × (Nat → BitVec 8) × (Nat → BitVec 8) × (AV) × (AV) × (Nat) × (Nat) × (Nat → BitVec 8) × (Nat → BitVec 8) => [arr 16 x.1, arr 32 x.2.1, arr 12 x.2.2.1, x.2.2.2.1, x.2.2.2.2.1]) (P := fun (x : (Nat → BitVec 8) × (Nat → BitVec 8) × (Nat → BitVec 8) × (AV) × (AV) × (Nat) × (Nat) × (Nat → BitVec 8) × (Nat → BitVec 8)) h => Byt h x.2.2.2.1 x.2.2.2.2.2.1 x.2.2.2.2.2.2.2.1 ∧ Byt h x.2.2.2.2.1 x.2.2.2.2.2.2.1 x.2.2.2.2.2.2.2.2 ∧ x.2.2.2.2.2.1 < 9223372036854775000 ∧ x.2.2.2.2.2.2.1 < 9223372036854775000) (a := (bl, k, n, xa, xt, na, nt, a, t)) (f := fun (x : (Nat → BitVec 8) × (Nat → BitVec 8) × (Nat → BitVec 8) × (AV) × (AV) × (Nat) × (Nat) × (Nat → BitVec 8) × (Nat → BitVec 8)) h => (arr 16 (tagF x.1 x.2.1 x.2.2.1 x.2.2.2.2.2.1 x.2.2.2.2.2.2.2.1 x.2.2.2.2.2.2.1 x.2.2.2.2.2.2.2.2), h)) (fun x y h hp hq e => by
    have e1 := arr_inj.1 (List.cons.inj e).1
    have e2 := arr_inj.1 (List.cons.inj (List.cons.inj e).2).1
    have e3 := arr_inj.1 (List.cons.inj (List.cons.inj (List.cons.inj e).2).2).1
    have e4 := (List.cons.inj (List.cons.inj (List.cons.inj (List.cons.inj e).2).2).2).1
    have e5 := (List.cons.inj (List.cons.inj (List.cons.inj (List.cons.inj (List.cons.inj e).2).2).2).2).1
    rw [e4, e5] at hp
    obtain ⟨d1, d2⟩ := hp.1.det hq.1
    obtain ⟨d3, d4⟩ := hp.2.1.det hq.2.1
    rw [← d1, ← d3]
    simp only [Prod.mk.injEq, and_true]
    exact arr_congr (tagF_congr e1 e2 e3 d2 d4)
    ) hc
theorem callS14_ok : CallOK Try.prog callS14 := addC_con callS13_ok k45 fun x h hx => by
  obtain ⟨t, ht⟩ := walk45 h _ _ _ _ _ _ _ _ _ hx.1 hx.2.1 hx.2.2.1 hx.2.2.2
  exact (s45 callS13_ok ht).drop0 t rfl
@[simp] theorem callS14_ne {f : Nat} (args : List AV) (h : Heap) (hf : f ≠ 45) : callS14 f args h = callS13 f args h := addC_ne _ _ _ args h hf
@[simp] theorem callS14_sne {f : Nat} (args : List AV) (h : Heap) (hf : f ≠ 45) : still callS14 f args h = still callS13 f args h := still_ne _ _ _ args h hf
theorem callS14_45 (bl : Nat → BitVec 8) (k : Nat → BitVec 8) (n : Nat → BitVec 8) (xa : AV) (xt : AV) (na : Nat) (nt : Nat) (a : Nat → BitVec 8) (t : Nat → BitVec 8) (h : Heap) (hc : Byt h xa na a ∧ Byt h xt nt t ∧ na < 9223372036854775000 ∧ nt < 9223372036854775000) : callS14 45 [arr 16 bl, arr 32 k, arr 12 n, xa, xt] h = some (arr 16 (tagF bl k n na a nt t), h) := by
  unfold callS14; rw [addC_same]; exact c45_eq bl k n xa xt na nt a t h hc
theorem callS14_45s (bl : Nat → BitVec 8) (k : Nat → BitVec 8) (n : Nat → BitVec 8) (xa : AV) (xt : AV) (na : Nat) (nt : Nat) (a : Nat → BitVec 8) (t : Nat → BitVec 8) (h : Heap) (hc : Byt h xa na a ∧ Byt h xt nt t ∧ na < 9223372036854775000 ∧ nt < 9223372036854775000) : still callS14 45 [arr 16 bl, arr 32 k, arr 12 n, xa, xt] h = some (arr 16 (tagF bl k n na a nt t), h) := still_of fun tt => callS14_45 bl k n xa xt na nt a t (h ++ tt) (⟨hc.1.app tt, hc.2.1.app tt, hc.2.2⟩)

end Go.Vab

/- How the evaluator reads the functions of a seat. Printed by wip/tools/gen.py (own work). -/
namespace Go.Vab
open Go Go.Proofs
/-! vestry/siv.stream -/
noncomputable def cx60 (call : Calling) : Ctx := ⟨call, TT, 12, [7, 8, 9, 10, 11]⟩
noncomputable def n60_0 : Code := bodyOf Try.f60
noncomputable def n60_1 : Code := cR n60_0
noncomputable def n60_2 : Code := cR n60_1
noncomputable def n60_3 : Code := cR n60_2
noncomputable def n60_4 : Code := cR n60_3
noncomputable def n60_5 : Code := cR n60_4
@[simp] theorem n60_5_eq (call : Calling) (s : St) : evC (cx60 call) n60_5 s = some (.ret, s) := xE
@[simp] theorem n60_4_eq (call : Calling) (env : Env) (h : Heap) : evC (cx60 call) n60_4 ⟨env, h⟩ = ( evC (cx60 call) n60_5 ⟨(Env.put env 4 (.fn 62 [(env.get 6), (env.get 2), (env.get 3), (env.get 5)])), h⟩) := (xSR 4 (cOps (cL n60_4)) (cR n60_4)).trans (by
  refine opsK_0 ?_
  refine oT 11 (.fn 62 [(env.get 6), (env.get 2), (env.get 3), (env.get 5)]) ?_
  refine oT 4 (.fn 62 [(env.get 6), (env.get 2), (env.get 3), (env.get 5)]) ?_
  exact oE)
@[simp] theorem n60_3_eq (call : Calling) (env : Env) (h : Heap) : evC (cx60 call) n60_3 ⟨env, h⟩ = (bnd (mNew (.int .i64) (nat 0) h) fun r0 => bnd (stU (.int .i64) r0.1 (nat 16) r0.2) fun r1 => evC (cx60 call) n60_4 ⟨(Env.put env 6 r0.1), r1.2⟩) := (xSR 3 (cOps (cL n60_3)) (cR n60_3)).trans (by
  refine opsK_0 ?_
  refine oP 6 fun r0 => ?_
  refine oN fun r1 => ?_
  exact oE)
@[simp] theorem n60_2_eq (call : Calling) (env : Env) (h : Heap) : evC (cx60 call) n60_2 ⟨env, h⟩ = (bnd (mNew (.arr 16 (.int .u8)) (arr 16 fun _ => 0#8) h) fun r0 => evC (cx60 call) n60_3 ⟨(Env.put env 5 r0.1), r0.2⟩) := (xSR 2 (cOps (cL n60_2)) (cR n60_2)).trans (by
  refine opsK_0 ?_
  refine oP 5 fun r0 => ?_
  exact oE)
@[simp] theorem n60_1_eq (call : Calling) (env : Env) (h : Heap) : evC (cx60 call) n60_1 ⟨env, h⟩ = (bnd (pureV h (mIdxA (.arr 16 (.int .u8)) (env.get 3) (nat 15))) fun r0 => bnd (pureV r0.2 (mLoad (.int .u8) r0.1 r0.2)) fun r1 => bnd (pureV r1.2 (mBin .or r1.1 (u8 128#8))) fun r2 => bnd (pureV r2.2 (mIdxA (.arr 16 (.int .u8)) (env.get 3) (nat 15))) fun r3 => bnd (stU (.int .u8) r3.1 r2.1 r3.2) fun r4 => evC (cx60 call) n60_2 ⟨env, r4.2⟩) := (xSR 1 (cOps (cL n60_1)) (cR n60_1)).trans (by
  refine opsK_0 ?_
  refine oP 7 fun r0 => ?_
  refine oP 8 fun r1 => ?_
  refine oP 9 fun r2 => ?_
  refine oP 10 fun r3 => ?_
  refine oN fun r4 => ?_
  exact oE)
@[simp] theorem n60_0_eq (call : Calling) (env : Env) (h : Heap) : evC (cx60 call) n60_0 ⟨env, h⟩ = (bnd (mNew (.arr 32 (.int .u8)) (env.get 0) h) fun r0 => bnd (mNew (.arr 16 (.int .u8)) (env.get 1) r0.2) fun r1 => evC (cx60 call) n60_1 ⟨(Env.put (Env.put (Env.put env 2 r0.1) 3 r1.1) 4 .nilfn), r1.2⟩) := (xSR 0 (cOps (cL n60_0)) (cR n60_0)).trans (by
  refine opsK_0 ?_
  refine oP 2 fun r0 => ?_
  refine oP 3 fun r1 => ?_
  refine oT 4 .nilfn ?_
  exact oE)
theorem b60 (call : Calling) (a0 a1 : AV) (h : Heap) : evBody (cx60 call) Try.f60 n60_0 [a0, a1] h = bnd (evC (cx60 call) n60_0 ⟨[(0, a0), (1, a1), (2, .junk), (3, .junk), (4, .junk), (5, .junk), (6, .junk)], h⟩) (retK fun s => bnd (bnd (some (s.env.get 4)) fun v => bnd (some []) fun vs => some (v :: vs)) fun vs => some (oneOrTuple vs)) := by kernel_rfl
theorem fn60 : Try.prog.funcs[60]? = some Try.f60 := by kernel_rfl
theorem k60 : Callable Try.prog 60 := ⟨Try.f60, fn60, by kernel_rfl, by kernel_rfl⟩
theorem s60 {call : Calling} (hc : CallOK Try.prog call) {args : List AV} {h h' : Heap} {v : AV} (he : evBody (cx60 call) Try.f60 n60_0 args h = some (v, h')) : Spec Try.prog 60 args h v h' := body_sound (C := cx60 call) TT_ok hc mixed_ok fn60 (by kernel_rfl) (by kernel_rfl) he
def sn60 := And.intro n60_5_eq (And.intro n60_4_eq (And.intro n60_3_eq (And.intro n60_2_eq (And.intro n60_1_eq (n60_0_eq)))))
end Go.Vab

/- How the evaluator reads the functions of a seat. Printed by wip/tools/gen.py (own work). -/
namespace Go.Vab
open Go Go.Proofs
/-! vestry/siv.stream$1 -/
noncomputable def cx62 (call : Calling) : Ctx := ⟨call, TT, 30, [6, 8, 9, 10, 11, 13, 14, 15, 16, 17, 18, 19, 20, 21, 22, 24, 25, 26, 27, 28, 29]⟩
noncomputable def n62_0 : Code := bodyOf Try.f62
noncomputable def n62_1 : Code := cR n62_0
noncomputable def n62_2 : Code := cL n62_1
noncomputable def n62_3 : Code := cR n62_2
noncomputable def n62_4 : Code := cL n62_3
noncomputable def n62_5 : Code := cR n62_4
noncomputable def n62_6 : Code := cR n62_5
noncomputable def n62_7 : Code := cR n62_6
noncomputable def n62_8 : Code := cB n62_7
noncomputable def n62_9 : Code := cB n62_8
noncomputable def n62_10 : Code := cL n62_9
noncomputable def n62_11 : Code := cR n62_10
noncomputable def n62_12 : Code := cL n62_11
noncomputable def n62_13 : Code := cR n62_11
noncomputable def n62_14 : Code := cR n62_9
noncomputable def n62_15 : Code := cL n62_14
noncomputable def n62_16 : Code := cB n62_15
noncomputable def n62_17 : Code := cR n62_16
noncomputable def n62_18 : Code := cR n62_17
noncomputable def n62_19 : Code := cL n62_18
noncomputable def n62_20 : Code := cR n62_18
noncomputable def n62_21 : Code := cR n62_14
noncomputable def n62_22 : Code := cR n62_3
noncomputable def n62_23 : Code := cR n62_1
noncomputable def n62_24 : Code := cR n62_23
noncomputable def n62_25 : Code := cR n62_24
@[simp] theorem n62_12_eq (call : Calling) (s : St) : evC (cx62 call) n62_12 s = some (.nrm, s) := xK
@[simp] theorem n62_13_eq (call : Calling) (s : St) : evC (cx62 call) n62_13 s = some (.exit 0, s) := xX 0
@[simp] theorem n62_11_eq (call : Calling) (s : St) : evC (cx62 call) n62_11 s = cnd (s.env.get 12) (evC (cx62 call) n62_12 s) (evC (cx62 call) n62_13 s) := xC 12 _ _
@[simp] theorem n62_10_eq (call : Calling) (env : Env) (h : Heap) : evC (cx62 call) n62_10 ⟨env, h⟩ = (bnd (pureV h (mBin .lss (env.get 5) (nat 4))) fun r1 => evC (cx62 call) n62_11 ⟨(Env.put env 12 r1.1), r1.2⟩) := (xSR 5 (cOps (cL n62_10)) (cR n62_10)).trans (by
  refine opsK_0 ?_
  refine oT 11 (env.get 5) ?_
  refine oP 12 fun r1 => ?_
  exact oE)
@[simp] theorem n62_19_eq (call : Calling) (s : St) : evC (cx62 call) n62_19 s = some (.exit 0, s) := xX 0
@[simp] theorem n62_20_eq (call : Calling) (s : St) : evC (cx62 call) n62_20 s = some (.nrm, s) := xK
@[simp] theorem n62_18_eq (call : Calling) (s : St) : evC (cx62 call) n62_18 s = cnd (s.env.get 23) (evC (cx62 call) n62_19 s) (evC (cx62 call) n62_20 s) := xC 23 _ _
@[simp] theorem n62_17_eq (call : Calling) (env : Env) (h : Heap) : evC (cx62 call) n62_17 ⟨env, h⟩ = (bnd (pureV h (mIdxA (.arr 16 (.int .u8)) (env.get 2) (env.get 5))) fun r1 => bnd (pureV r1.2 (mLoad (.int .u8) r1.1 r1.2)) fun r2 => bnd (pureV r2.2 (mBin .neq r2.1 (u8 0#8))) fun r3 => evC (cx62 call) n62_18 ⟨(Env.put env 23 r3.1), r3.2⟩) := (xSR 8 (cOps (cL n62_17)) (cR n62_17)).trans (by
  refine opsK_0 ?_
  refine oT 20 (env.get 5) ?_
  refine oP 21 fun r1 => ?_
  refine oP 22 fun r2 => ?_
  refine oP 23 fun r3 => ?_
  exact oE)
@[simp] theorem n62_16_eq (call : Calling) (env : Env) (h : Heap) : evC (cx62 call) n62_16 ⟨env, h⟩ = (bnd (pureV h (mIdxA (.arr 16 (.int .u8)) (env.get 2) (env.get 5))) fun r1 => bnd (pureV r1.2 (mLoad (.int .u8) r1.1 r1.2)) fun r2 => bnd (pureV r2.2 (mBin .add r2.1 (u8 1#8))) fun r3 => bnd (pureV r3.2 (mIdxA (.arr 16 (.int .u8)) (env.get 2) (env.get 5))) fun r4 => bnd (stU (.int .u8) r4.1 r3.1 r4.2) fun r5 => evC (cx62 call) n62_17 ⟨env, r5.2⟩) := (xSR 7 (cOps (cL n62_16)) (cR n62_16)).trans (by
  refine opsK_0 ?_
  refine oT 15 (env.get 5) ?_
  refine oP 16 fun r1 => ?_
  refine oP 17 fun r2 => ?_
  refine oP 18 fun r3 => ?_
  refine oP 19 fun r4 => ?_
  refine oN fun r5 => ?_
  exact oE)
@[simp] theorem n62_15_eq (call : Calling) (s : St) : evC (cx62 call) n62_15 s = bnd (evC (cx62 call) n62_16 s) fun r => some (inBlk 1 r) := xB 1 _
@[simp] theorem n62_21_eq (call : Calling) (env : Env) (h : Heap) : evC (cx62 call) n62_21 ⟨env, h⟩ = (bnd (pureV h (mBin .add (env.get 5) (nat 1))) fun r1 => some (.nrm, ⟨(Env.put env 5 r1.1), r1.2⟩)) := (xR 6 (cOps n62_21)).trans (by
  refine opsK_0 ?_
  refine oT 13 (env.get 5) ?_
  refine oP 14 fun r1 => ?_
  refine oT 5 r1.1 ?_
  exact oE)
@[simp] theorem n62_14_eq (call : Calling) (s : St) : evC (cx62 call) n62_14 s = bnd (evC (cx62 call) n62_15 s) (sqK (evC (cx62 call) n62_21)) := xS _ _
@[simp] theorem n62_9_eq (call : Calling) (s : St) : evC (cx62 call) n62_9 s = bnd (evC (cx62 call) n62_10 s) (sqK (evC (cx62 call) n62_14)) := xS _ _
@[simp] theorem n62_8_eq (call : Calling) (s : St) : evC (cx62 call) n62_8 s = evLoop (evC (cx62 call) n62_9) s := xL _
@[simp] theorem n62_7_eq (call : Calling) (s : St) : evC (cx62 call) n62_7 s = bnd (evC (cx62 call) n62_8 s) fun r => some (inBlk 0 r) := xB 0 _
@[simp] theorem n62_6_eq (call : Calling) (env : Env) (h : Heap) : evC (cx62 call) n62_6 ⟨env, h⟩ = ( evC (cx62 call) n62_7 ⟨(Env.put env 5 (nat 0)), h⟩) := (xSR 4 (cOps (cL n62_6)) (cR n62_6)).trans (by
  refine opsK_0 ?_
  refine oT 5 (nat 0) ?_
  exact oE)
@[simp] theorem n62_5_eq (call : Calling) (env : Env) (h : Heap) : evC (cx62 call) n62_5 ⟨env, h⟩ = (bnd (stU (.int .i64) (env.get 0) (nat 0) h) fun r0 => evC (cx62 call) n62_6 ⟨env, r0.2⟩) := (xSR 3 (cOps (cL n62_5)) (cR n62_5)).trans (by
  refine opsK_0 ?_
  refine oN fun r0 => ?_
  exact oE)
@[simp] theorem n62_4_eq (call : Calling) (env : Env) (h : Heap) : evC (cx62 call) n62_4 ⟨env, h⟩ = (bnd (pureV h (mLoad (.arr 32 (.int .u8)) (env.get 1) h)) fun r0 => bnd (pureV r0.2 (mLoad (.arr 16 (.int .u8)) (env.get 2) r0.2)) fun r1 => bnd (call 19 [r0.1, r1.1] r1.2) fun r2 => bnd (stU (.arr 16 (.int .u8)) (env.get 3) r2.1 r2.2) fun r3 => evC (cx62 call) n62_5 ⟨env, r3.2⟩) := (xSR 2 (cOps (cL n62_4)) (cR n62_4)).trans (by
  refine opsK_0 ?_
  refine oP 8 fun r0 => ?_
  refine oP 9 fun r1 => ?_
  refine oP 10 fun r2 => ?_
  refine oN fun r3 => ?_
  exact oE)
@[simp] theorem n62_22_eq (call : Calling) (s : St) : evC (cx62 call) n62_22 s = some (.nrm, s) := xK
@[simp] theorem n62_3_eq (call : Calling) (s : St) : evC (cx62 call) n62_3 s = cnd (s.env.get 7) (evC (cx62 call) n62_4 s) (evC (cx62 call) n62_22 s) := xC 7 _ _
@[simp] theorem n62_2_eq (call : Calling) (env : Env) (h : Heap) : evC (cx62 call) n62_2 ⟨env, h⟩ = (bnd (pureV h (mLoad (.int .i64) (env.get 0) h)) fun r0 => bnd (pureV r0.2 (mBin .eql r0.1 (nat 16))) fun r1 => evC (cx62 call) n62_3 ⟨(Env.put env 7 r1.1), r1.2⟩) := (xSR 1 (cOps (cL n62_2)) (cR n62_2)).trans (by
  refine opsK_0 ?_
  refine oP 6 fun r0 => ?_
  refine oP 7 fun r1 => ?_
  exact oE)
@[simp] theorem n62_25_eq (call : Calling) (s : St) : evC (cx62 call) n62_25 s = some (.ret, s) := xE
@[simp] theorem n62_24_eq (call : Calling) (env : Env) (h : Heap) : evC (cx62 call) n62_24 ⟨env, h⟩ = (bnd (pureV h (mLoad (.int .i64) (env.get 0) h)) fun r0 => bnd (pureV r0.2 (mBin .sub r0.1 (nat 1))) fun r1 => bnd (pureV r1.2 (mIdxA (.arr 16 (.int .u8)) (env.get 3) r1.1)) fun r2 => bnd (pureV r2.2 (mLoad (.int .u8) r2.1 r2.2)) fun r3 => evC (cx62 call) n62_25 ⟨(Env.put env 4 r3.1), r3.2⟩) := (xSR 10 (cOps (cL n62_24)) (cR n62_24)).trans (by
  refine opsK_0 ?_
  refine oP 26 fun r0 => ?_
  refine oP 27 fun r1 => ?_
  refine oP 28 fun r2 => ?_
  refine oP 29 fun r3 => ?_
  refine oT 4 r3.1 ?_
  exact oE)
@[simp] theorem n62_23_eq (call : Calling) (env : Env) (h : Heap) : evC (cx62 call) n62_23 ⟨env, h⟩ = (bnd (pureV h (mLoad (.int .i64) (env.get 0) h)) fun r0 => bnd (pureV r0.2 (mBin .add r0.1 (nat 1))) fun r1 => bnd (stU (.int .i64) (env.get 0) r1.1 r1.2) fun r2 => evC (cx62 call) n62_24 ⟨env, r2.2⟩) := (xSR 9 (cOps (cL n62_23)) (cR n62_23)).trans (by
  refine opsK_0 ?_
  refine oP 24 fun r0 => ?_
  refine oP 25 fun r1 => ?_
  refine oN fun r2 => ?_
  exact oE)
@[simp] theorem n62_1_eq (call : Calling) (s : St) : evC (cx62 call) n62_1 s = bnd (evC (cx62 call) n62_2 s) (sqK (evC (cx62 call) n62_23)) := xS _ _
@[simp] theorem n62_0_eq (call : Calling) (env : Env) (h : Heap) : evC (cx62 call) n62_0 ⟨env, h⟩ = ( evC (cx62 call) n62_1 ⟨(Env.put env 4 (u8 0#8)), h⟩) := (xSR 0 (cOps (cL n62_0)) (cR n62_0)).trans (by
  refine opsK_0 ?_
  refine oT 4 (u8 0#8) ?_
  exact oE)
theorem b62 (call : Calling) (a0 a1 a2 a3 : AV) (h : Heap) : evBody (cx62 call) Try.f62 n62_0 [a0, a1, a2, a3] h = bnd (evC (cx62 call) n62_0 ⟨[(0, a0), (1, a1), (2, a2), (3, a3), (4, .junk), (5, .junk), (7, .junk), (12, .junk), (23, .junk)], h⟩) (retK fun s => bnd (bnd (some (s.env.get 4)) fun v => bnd (some []) fun vs => some (v :: vs)) fun vs => some (oneOrTuple vs)) := by kernel_rfl
theorem fn62 : Try.prog.funcs[62]? = some Try.f62 := by kernel_rfl
theorem k62 : Callable Try.prog 62 := ⟨Try.f62, fn62, by kernel_rfl, by kernel_rfl⟩
theorem s62 {call : Calling} (hc : CallOK Try.prog call) {args : List AV} {h h' : Heap} {v : AV} (he : evBody (cx62 call) Try.f62 n62_0 args h = some (v, h')) : Spec Try.prog 62 args h v h' := body_sound (C := cx62 call) TT_ok hc mixed_ok fn62 (by kernel_rfl) (by kernel_rfl) he
def sn62 := And.intro n62_12_eq (And.intro n62_13_eq (And.intro n62_11_eq (And.intro n62_10_eq (And.intro n62_19_eq (And.intro n62_20_eq (And.intro n62_18_eq (And.intro n62_17_eq (And.intro n62_16_eq (And.intro n62_15_eq (And.intro n62_21_eq (And.intro n62_14_eq (And.intro n62_9_eq (And.intro n62_8_eq (And.intro n62_7_eq (And.intro n62_6_eq (And.intro n62_5_eq (And.intro n62_4_eq (And.intro n62_22_eq (And.intro n62_3_eq (And.intro n62_2_eq (And.intro n62_25_eq (And.intro n62_24_eq (And.intro n62_23_eq (And.intro n62_1_eq (n62_0_eq)))))))))))))))))))))))))
end Go.Vab

/- How the evaluator reads the functions of a seat. Printed by wip/tools/gen.py (own work). -/
namespace Go.Vab
open Go Go.Proofs
/-! vestry/siv.turned -/
noncomputable def cx46 (call : Calling) : Ctx := ⟨call, TT, 36, [11, 12, 13, 14, 15, 16, 17, 18, 19, 24, 25, 26, 27, 28, 29, 30, 31, 32, 33, 34, 35]⟩
noncomputable def n46_0 : Code := bodyOf Try.f46
noncomputable def n46_1 : Code := cR n46_0
noncomputable def n46_2 : Code := cR n46_1
noncomputable def n46_3 : Code := cR n46_2
noncomputable def n46_4 : Code := cL n46_3
noncomputable def n46_5 : Code := cR n46_4
noncomputable def n46_6 : Code := cB n46_5
noncomputable def n46_7 : Code := cB n46_6
noncomputable def n46_8 : Code := cR n46_7
noncomputable def n46_9 : Code := cL n46_8
noncomputable def n46_10 : Code := cL n46_9
noncomputable def n46_11 : Code := cR n46_9
noncomputable def n46_12 : Code := cR n46_8
noncomputable def n46_13 : Code := cL n46_12
noncomputable def n46_14 : Code := cB n46_13
noncomputable def n46_15 : Code := cR n46_14
noncomputable def n46_16 : Code := cR n46_12
noncomputable def n46_17 : Code := cR n46_3
noncomputable def n46_18 : Code := cR n46_17
@[simp] theorem n46_10_eq (call : Calling) (s : St) : evC (cx46 call) n46_10 s = some (.nrm, s) := xK
@[simp] theorem n46_11_eq (call : Calling) (s : St) : evC (cx46 call) n46_11 s = some (.exit 0, s) := xX 0
@[simp] theorem n46_9_eq (call : Calling) (s : St) : evC (cx46 call) n46_9 s = cnd (s.env.get 23) (evC (cx46 call) n46_10 s) (evC (cx46 call) n46_11 s) := xC 23 _ _
@[simp] theorem n46_15_eq (call : Calling) (env : Env) (h : Heap) : evC (cx46 call) n46_15 ⟨env, h⟩ = (bnd (callOf (cx46 call) false (env.get 7) [] h) fun r4 => bnd (pureV r4.2 (mBin .xor (env.get 10) r4.1)) fun r5 => bnd (pureV r5.2 (mIdxS (.int .u8) (env.get 8) (env.get 9))) fun r6 => bnd (stU (.int .u8) r6.1 r5.1 r6.2) fun r7 => some (.nrm, ⟨env, r7.2⟩)) := (xR 6 (cOps n46_15)).trans (by
  refine opsK_0 ?_
  refine oT 27 (env.get 8) ?_
  refine oT 28 (env.get 9) ?_
  refine oT 29 (env.get 10) ?_
  refine oT 30 (env.get 7) ?_
  refine oP 31 fun r4 => ?_
  refine oP 32 fun r5 => ?_
  refine oP 33 fun r6 => ?_
  refine oN fun r7 => ?_
  exact oE)
@[simp] theorem n46_14_eq (call : Calling) (env : Env) (h : Heap) : evC (cx46 call) n46_14 ⟨env, h⟩ = (bnd (pureV h (mIdxS (.int .u8) (env.get 20) (env.get 22))) fun r1 => bnd (pureV r1.2 (mLoad (.int .u8) r1.1 r1.2)) fun r2 => evC (cx46 call) n46_15 ⟨(Env.put (Env.put env 9 (env.get 22)) 10 r2.1), r2.2⟩) := (xSR 5 (cOps (cL n46_14)) (cR n46_14)).trans (by
  refine opsK_0 ?_
  refine oT 24 (env.get 22) ?_
  refine oP 25 fun r1 => ?_
  refine oP 26 fun r2 => ?_
  refine oT 9 (env.get 22) ?_
  refine oT 10 r2.1 ?_
  exact oE)
@[simp] theorem n46_13_eq (call : Calling) (s : St) : evC (cx46 call) n46_13 s = bnd (evC (cx46 call) n46_14 s) fun r => some (inBlk 1 r) := xB 1 _
@[simp] theorem n46_16_eq (call : Calling) (env : Env) (h : Heap) : evC (cx46 call) n46_16 ⟨env, h⟩ = (bnd (pureV h (mBin .add (env.get 22) (nat 1))) fun r0 => some (.nrm, ⟨(Env.put env 22 r0.1), r0.2⟩)) := (xR 7 (cOps n46_16)).trans (by
  refine opsK_0 ?_
  refine oP 34 fun r0 => ?_
  refine oT 22 r0.1 ?_
  exact oE)
@[simp] theorem n46_12_eq (call : Calling) (s : St) : evC (cx46 call) n46_12 s = bnd (evC (cx46 call) n46_13 s) (sqK (evC (cx46 call) n46_16)) := xS _ _
@[simp] theorem n46_8_eq (call : Calling) (s : St) : evC (cx46 call) n46_8 s = bnd (evC (cx46 call) n46_9 s) (sqK (evC (cx46 call) n46_12)) := xS _ _
@[simp] theorem n46_7_eq (call : Calling) (env : Env) (h : Heap) : evC (cx46 call) n46_7 ⟨env, h⟩ = (bnd (pureV h (mBin .lss (env.get 22) (env.get 21))) fun r0 => evC (cx46 call) n46_8 ⟨(Env.put env 23 r0.1), r0.2⟩) := (xSR 4 (cOps (cL n46_7)) (cR n46_7)).trans (by
  refine opsK_0 ?_
  refine oP 23 fun r0 => ?_
  exact oE)
@[simp] theorem n46_6_eq (call : Calling) (s : St) : evC (cx46 call) n46_6 s = evLoop (evC (cx46 call) n46_7) s := xL _
@[simp] theorem n46_5_eq (call : Calling) (s : St) : evC (cx46 call) n46_5 s = bnd (evC (cx46 call) n46_6 s) fun r => some (inBlk 0 r) := xB 0 _
@[simp] theorem n46_4_eq (call : Calling) (env : Env) (h : Heap) : evC (cx46 call) n46_4 ⟨env, h⟩ = (bnd (pureV h (mLenS (env.get 2))) fun r1 => evC (cx46 call) n46_5 ⟨(Env.put (Env.put (Env.put env 20 (env.get 2)) 21 r1.1) 22 (nat 0)), r1.2⟩) := (xSR 3 (cOps (cL n46_4)) (cR n46_4)).trans (by
  refine opsK_0 ?_
  refine oT 20 (env.get 2) ?_
  refine oP 21 fun r1 => ?_
  refine oT 22 (nat 0) ?_
  exact oE)
@[simp] theorem n46_18_eq (call : Calling) (s : St) : evC (cx46 call) n46_18 s = some (.ret, s) := xE
@[simp] theorem n46_17_eq (call : Calling) (env : Env) (h : Heap) : evC (cx46 call) n46_17 ⟨env, h⟩ = ( evC (cx46 call) n46_18 ⟨(Env.put env 6 (env.get 8)), h⟩) := (xSR 8 (cOps (cL n46_17)) (cR n46_17)).trans (by
  refine opsK_0 ?_
  refine oT 35 (env.get 8) ?_
  refine oT 6 (env.get 8) ?_
  exact oE)
@[simp] theorem n46_3_eq (call : Calling) (s : St) : evC (cx46 call) n46_3 s = bnd (evC (cx46 call) n46_4 s) (sqK (evC (cx46 call) n46_17)) := xS _ _
@[simp] theorem n46_2_eq (call : Calling) (env : Env) (h : Heap) : evC (cx46 call) n46_2 ⟨env, h⟩ = (bnd (pureV h (mLenS (env.get 2))) fun r1 => bnd (pureV r1.2 (mLenS (env.get 2))) fun r3 => bnd (pureV r3.2 (mBin .add r3.1 (nat 16))) fun r4 => bnd (mMake (.int .u8) 1 (u8 0#8) r1.1 r4.1 r4.2) fun r5 => evC (cx46 call) n46_3 ⟨(Env.put env 8 r5.1), r5.2⟩) := (xSR 2 (cOps (cL n46_2)) (cR n46_2)).trans (by
  refine opsK_0 ?_
  refine oT 14 (env.get 2) ?_
  refine oP 15 fun r1 => ?_
  refine oT 16 (env.get 2) ?_
  refine oP 17 fun r3 => ?_
  refine oP 18 fun r4 => ?_
  refine oP 19 fun r5 => ?_
  refine oT 8 r5.1 ?_
  exact oE)
@[simp] theorem n46_1_eq (call : Calling) (env : Env) (h : Heap) : evC (cx46 call) n46_1 ⟨env, h⟩ = (bnd (pureV h (mLoad (.arr 32 (.int .u8)) (env.get 3) h)) fun r0 => bnd (pureV r0.2 (mLoad (.arr 16 (.int .u8)) (env.get 4) r0.2)) fun r1 => bnd (call 60 [r0.1, r1.1] r1.2) fun r2 => evC (cx46 call) n46_2 ⟨(Env.put env 7 r2.1), r2.2⟩) := (xSR 1 (cOps (cL n46_1)) (cR n46_1)).trans (by
  refine opsK_0 ?_
  refine oP 11 fun r0 => ?_
  refine oP 12 fun r1 => ?_
  refine oP 13 fun r2 => ?_
  refine oT 7 r2.1 ?_
  exact oE)
@[simp] theorem n46_0_eq (call : Calling) (env : Env) (h : Heap) : evC (cx46 call) n46_0 ⟨env, h⟩ = (bnd (mNew (.arr 32 (.int .u8)) (env.get 0) h) fun r0 => bnd (mNew (.arr 16 (.int .u8)) (env.get 1) r0.2) fun r1 => evC (cx46 call) n46_1 ⟨(Env.put (Env.put (Env.put env 3 r0.1) 4 r1.1) 6 .nilslice), r1.2⟩) := (xSR 0 (cOps (cL n46_0)) (cR n46_0)).trans (by
  refine opsK_0 ?_
  refine oP 3 fun r0 => ?_
  refine oP 4 fun r1 => ?_
  refine oT 6 .nilslice ?_
  exact oE)
theorem b46 (call : Calling) (a0 a1 a2 : AV) (h : Heap) : evBody (cx46 call) Try.f46 n46_0 [a0, a1, a2] h = bnd (evC (cx46 call) n46_0 ⟨[(0, a0), (1, a1), (2, a2), (3, .junk), (4, .junk), (5, .junk), (6, .junk), (7, .junk), (8, .junk), (9, .junk), (10, .junk), (20, .junk), (21, .junk), (22, .junk), (23, .junk)], h⟩) (retK fun s => bnd (bnd (some (s.env.get 6)) fun v => bnd (some []) fun vs => some (v :: vs)) fun vs => some (oneOrTuple vs)) := by kernel_rfl
theorem fn46 : Try.prog.funcs[46]? = some Try.f46 := by kernel_rfl
theorem k46 : Callable Try.prog 46 := ⟨Try.f46, fn46, by kernel_rfl, by kernel_rfl⟩
theorem s46 {call : Calling} (hc : CallOK Try.prog call) {args : List AV} {h h' : Heap} {v : AV} (he : evBody (cx46 call) Try.f46 n46_0 args h = some (v, h')) : Spec Try.prog 46 args h v h' := body_sound (C := cx46 call) TT_ok hc mixed_ok fn46 (by kernel_rfl) (by kernel_rfl) he
def sn46 := And.intro n46_10_eq (And.intro n46_11_eq (And.intro n46_9_eq (And.intro n46_15_eq (And.intro n46_14_eq (And.intro n46_13_eq (And.intro n46_16_eq (And.intro n46_12_eq (And.intro n46_8_eq (And.intro n46_7_eq (And.intro n46_6_eq (And.intro n46_5_eq (And.intro n46_4_eq (And.intro n46_18_eq (And.intro n46_17_eq (And.intro n46_3_eq (And.intro n46_2_eq (And.intro n46_1_eq (n46_0_eq))))))))))))))))))
end Go.Vab

/-
  The stream and what it turns, walked.
-/
namespace Go.Vab
open Go Go.Proofs

@[simp] theorem mIdxS_slc (b ver : Nat) (path : List Nat) (off len : Nat) (cap : Option Nat) (j : Nat) : mIdxS (.int .u8) (.slice b ver path (.int .u8) off len cap) (nat j) = if j < len then some (.ptr b ver (path ++ [off + j]) (.int .u8)) else none := by
  by_cases h : j < len <;> simp [mIdxS, h]
theorem repl_arr (m : Nat) : AV.ints .u8 (List.replicate m ((0#8 : BitVec 8).toNat : Int)) = arr m fun _ => 0#8 := by
  unfold arr bytes
  congr 1
  apply List.ext_getElem?
  intro i
  rw [List.getElem?_replicate, List.getElem?_map, range_map_getD]
  split <;> simp_all
theorem mMake_u8 (l c : Nat) (h : Heap) (h1 : l ≤ c) (h2 : c ≤ roomBound) : mMake (.int .u8) 1 (u8 0#8) (nat l) (nat c) h = some (.slice h.length 0 [] (.int .u8) 0 l (some c), h ++ [⟨arr c fun _ => 0#8, 0, .own⟩]) := by
  rw [← repl_arr]
  simp only [mMake, nat, u8, hasTy, decide_true, Int.toNat_natCast, Int.natCast_nonneg, true_and, Nat.mul_one, and_true]
  rw [if_pos ⟨by omega, by unfold roomBound at h2 ⊢; omega, by unfold roomBound at h2 ⊢; omega⟩]
@[simp] theorem callOf46 (call : Calling) (g : Nat) (caps : List AV) (h : Heap) : callOf (cx46 call) false (.fn g caps) [] h = call g caps h := rfl

def topF (t : Nat → BitVec 8) : Nat → BitVec 8 := upd t 15 (t 15 ||| 128#8)

def strm (key c : Nat → BitVec 8) : Heap := [⟨arr 32 key, 0, .own⟩, ⟨arr 16 (topF c), 0, .own⟩, ⟨arr 16 fun _ => 0#8, 0, .own⟩, ⟨nat 16, 0, .own⟩]
theorem walk60 (call : Calling) (h : Heap) (key c : Nat → BitVec 8) : evBody (cx60 call) Try.f60 n60_0 [arr 32 key, arr 16 c] h =
    some (.fn 62 [.ptr (h.length + 3) 0 [] (.int .i64), .ptr h.length 0 [] (.arr 32 (.int .u8)), .ptr (h.length + 1) 0 [] (.arr 16 (.int .u8)), .ptr (h.length + 2) 0 [] (.arr 16 (.int .u8))], h ++ [⟨arr 32 key, 0, .own⟩, ⟨arr 16 (topF c), 0, .own⟩, ⟨arr 16 fun _ => 0#8, 0, .own⟩, ⟨nat 16, 0, .own⟩]) := by
  rw [b60]
  have main : Evs (evC (cx60 call) n60_0 ⟨[(0, arr 32 key), (1, arr 16 c), (2, .junk), (3, .junk), (4, .junk), (5, .junk), (6, .junk)], h⟩) (fun r => ∃ env, r = (.ret, ⟨env, h ++ [⟨arr 32 key, 0, .own⟩, ⟨arr 16 (topF c), 0, .own⟩, ⟨arr 16 fun _ => 0#8, 0, .own⟩, ⟨nat 16, 0, .own⟩]⟩) ∧ env.get 4 = .fn 62 [.ptr (h.length + 3) 0 [] (.int .i64), .ptr h.length 0 [] (.arr 32 (.int .u8)), .ptr (h.length + 1) 0 [] (.arr 16 (.int .u8)), .ptr (h.length + 2) 0 [] (.arr 16 (.int .u8))]) := by
    obtain ⟨env, he⟩ : ∃ env : Env, env = [(0, arr 32 key), (1, arr 16 c), (2, .junk), (3, .junk), (4, .junk), (5, .junk), (6, .junk)] := ⟨_, rfl⟩
    rw [← he]
    have g0 : env.get 0 = arr 32 key := by rw [he]; rfl
    have g1 : env.get 1 = arr 16 c := by rw [he]; rfl
    clear he
    repeat (first
      | (with_reducible refine Evs.assoc ?_)
      | ((with_reducible refine Evs.some_bnd ?_); try dsimp only [sqK_nrm, sqK_exit, sqK_ret])
      | ((with_reducible apply Evs.bcndT); (focus (simp (disch := omega) [g0, g1] <;> omega)))
      | ((with_reducible apply Evs.bcndF); (focus (simp (disch := omega) [g0, g1] <;> omega)))
      | ((with_reducible apply Evs.step); (focus ((conv => lhs; simp (disch := omega) [g0, g1]); done)); try dsimp only)
      | (simp only [sn60, sqK_nrm, sqK_exit, sqK_ret, inBlk_nrm, inBlk_ret, inBlk_same]))
    exact Evs.ret ⟨_, rfl, by simp⟩
  obtain ⟨r, hr, env, rfl, e0⟩ := main
  rw [hr]
  simp [e0, oneOrTuple]

noncomputable def c60 := conC (fun x : (Nat → BitVec 8) × (Nat → BitVec 8) => [arr 32 x.1, arr 16 x.2]) (fun (x : (Nat → BitVec 8) × (Nat → BitVec 8)) h => True) (fun (x : (Nat → BitVec 8) × (Nat → BitVec 8)) h => (.fn 62 [.ptr (h.length + 3) 0 [] (.int .i64), .ptr h.length 0 [] (.arr 32 (.int .u8)), .ptr (h.length + 1) 0 [] (.arr 16 (.int .u8)), .ptr (h.length + 2) 0 [] (.arr 16 (.int .u8))], h ++ strm x.1 x.2))
noncomputable def callS15 : Calling := addC callS14 60 c60
theorem c60_eq (k : Nat → BitVec 8) (c : Nat → BitVec 8) (h : Heap) : c60 [arr 32 k, arr 16 c] h = some (.fn 62 [.ptr (h.length + 3) 0 [] (.int .i64), .ptr h.length 0 [] (.arr 32 (.int .u8)), .ptr (h.length + 1) 0 [] (.arr 16 (.int .u8)), .ptr (h.length + 2) 0 [] (.arr 16 (.int .u8))], h ++ strm k c) :=
  conC_eq (enc := fun x : (Nat → BitVec 8) × (Nat → BitVec 8) => [arr 32 x.1, arr 16 x.2]) (P := fun (x : (Nat → BitVec 8) × (Nat → BitVec 8)) h => True) (a := (k, c)) (f := fun (x : (Nat → BitVec 8) × (Nat → BitVec 8)) h => (.fn 62 [.ptr (h.length + 3) 0 [] (.int .i64), .ptr h.length 0 [] (.arr 32 (.int .u8)), .ptr (h.length + 1) 0 [] (.arr 16 (.int .u8)), .ptr (h.length + 2) 0 [] (.arr 16 (.int .u8))], h ++ strm x.1 x.2)) (fun x y h e => by
    have e1 := arr_inj.1 (List.cons.inj e).1
    have e2 := arr_inj.1 (List.cons.inj (List.cons.inj e).2).1
    unfold strm
    rw [arr_congr e1, arr_congr (g := topF x.2) (g' := topF y.2) (fun i hi => by unfold topF upd; split; rw [e2 15 (by omega)]; exact e2 i hi)]
    ) trivial
theorem callS15_ok : CallOK Try.prog callS15 := addC_con callS14_ok k60 fun x h hx => by
  exact s60 callS14_ok (walk60 callS14 h x.1 x.2)
@[simp] theorem callS15_ne {f : Nat} (args : List AV) (h : Heap) (hf : f ≠ 60) : callS15 f args h = callS14 f args h := addC_ne _ _ _ args h hf
@[simp] theorem callS15_sne {f : Nat} (args : List AV) (h : Heap) (hf : f ≠ 60) : still callS15 f args h = still callS14 f args h := still_ne _ _ _ args h hf
@[simp] theorem callS15_60 (k : Nat → BitVec 8) (c : Nat → BitVec 8) (h : Heap) : callS15 60 [arr 32 k, arr 16 c] h = some (.fn 62 [.ptr (h.length + 3) 0 [] (.int .i64), .ptr h.length 0 [] (.arr 32 (.int .u8)), .ptr (h.length + 1) 0 [] (.arr 16 (.int .u8)), .ptr (h.length + 2) 0 [] (.arr 16 (.int .u8))], h ++ strm k c) := by
  unfold callS15; rw [addC_same]; exact c60_eq k c h

def w4 (c : Nat → BitVec 8) : BitVec 32 := c 3 ++ c 2 ++ c 1 ++ c 0
def S62 (h : Heap) (x1 x2 : Blk) (key c b : Nat → BitVec 8) (k : Nat) (tr : Heap) : Heap := h ++ (x1 :: x2 :: ⟨arr 32 key, 0, .own⟩ :: ⟨arr 16 c, 0, .own⟩ :: ⟨arr 16 b, 0, .own⟩ :: ⟨nat k, 0, .own⟩ :: tr)
def caps62 (L : Nat) : List AV := [.ptr (L + 5) 0 [] (.int .i64), .ptr (L + 2) 0 [] (.arr 32 (.int .u8)), .ptr (L + 3) 0 [] (.arr 16 (.int .u8)), .ptr (L + 4) 0 [] (.arr 16 (.int .u8))]

theorem w4_toNat (c : Nat → BitVec 8) : (w4 c).toNat = (c 0).toNat + 256 * (c 1).toNat + 65536 * (c 2).toNat + 16777216 * (c 3).toNat := by
  have h0 := (c 0).isLt
  have h1 := (c 1).isLt
  have h2 := (c 2).isLt
  have h3 := (c 3).isLt
  have cat : ∀ {n : Nat} (x : BitVec n) (y : BitVec 8), (x ++ y).toNat = x.toNat * 256 + y.toNat := fun x y => by
    rw [BitVec.toNat_append, ← Nat.shiftLeft_add_eq_or_of_lt y.isLt, Nat.shiftLeft_eq]
  unfold w4
  rw [cat, cat, cat]
  omega
theorem inc8_ne {x : BitVec 8} (h : x + 1#8 ≠ 0#8) : (x + 1#8).toNat = x.toNat + 1 := by
  have h1 := x.isLt
  have h2 : (x + 1#8).toNat ≠ 0 := fun q => h (BitVec.eq_of_toNat_eq q)
  rw [BitVec.toNat_add] at h2 ⊢
  simp at h2 ⊢
  omega
theorem inc8_eq {x : BitVec 8} (h : x + 1#8 = 0#8) : x = 255#8 := by
  have h1 := x.isLt
  have h2 := congrArg BitVec.toNat h
  apply BitVec.eq_of_toNat_eq
  rw [BitVec.toNat_add] at h2
  simp at h2 ⊢
  omega
theorem w4_next {c c' : Nat → BitVec 8} {i : Nat} (hi : i < 4) (h0 : ∀ j, j < i → c j = 255#8) (h1 : ∀ j, c' j = if j < i then 0#8 else if j = i then c j + 1#8 else c j) (h2 : c i + 1#8 ≠ 0#8) : w4 c' = w4 c + 1#32 := by
  apply BitVec.eq_of_toNat_eq
  rw [BitVec.toNat_add, w4_toNat, w4_toNat, h1 0, h1 1, h1 2, h1 3]
  have a0 := (c 0).isLt
  have a1 := (c 1).isLt
  have a2 := (c 2).isLt
  have a3 := (c 3).isLt
  have n1 := inc8_ne h2
  have l1 := (c i + 1#8).isLt
  rcases (by omega : i = 0 ∨ i = 1 ∨ i = 2 ∨ i = 3) with rfl | rfl | rfl | rfl
  · simp only [Nat.lt_irrefl, if_false, if_true, n1, Nat.not_lt_zero, Nat.succ_ne_zero, Nat.reduceEqDiff, BitVec.toNat_ofNat]
    omega
  · have q0 := congrArg BitVec.toNat (h0 0 (by omega))
    simp only [Nat.reduceLT, Nat.lt_irrefl, if_false, if_true, n1, Nat.not_lt_zero, Nat.reduceEqDiff, BitVec.toNat_ofNat] at q0 ⊢
    omega
  · have q0 := congrArg BitVec.toNat (h0 0 (by omega))
    have q1 := congrArg BitVec.toNat (h0 1 (by omega))
    simp only [Nat.reduceLT, Nat.lt_irrefl, if_false, if_true, n1, Nat.not_lt_zero, Nat.reduceEqDiff, BitVec.toNat_ofNat] at q0 q1 ⊢
    omega
  · have q0 := congrArg BitVec.toNat (h0 0 (by omega))
    have q1 := congrArg BitVec.toNat (h0 1 (by omega))
    have q2 := congrArg BitVec.toNat (h0 2 (by omega))
    simp only [Nat.reduceLT, Nat.lt_irrefl, if_false, if_true, n1, Nat.not_lt_zero, Nat.reduceEqDiff, BitVec.toNat_ofNat] at q0 q1 q2 ⊢
    omega
theorem w4_last {c c' : Nat → BitVec 8} (h0 : ∀ j, j < 4 → c j = 255#8) (h1 : ∀ j, j < 4 → c' j = 0#8) : w4 c' = w4 c + 1#32 := by
  unfold w4
  rw [h1 0 (by omega), h1 1 (by omega), h1 2 (by omega), h1 3 (by omega), h0 0 (by omega), h0 1 (by omega), h0 2 (by omega), h0 3 (by omega)]
  rfl

theorem inc62 (h : Heap) (x1 x2 : Blk) (key c b : Nat → BitVec 8) (k : Nat) (tr : Heap) (env : Env) (e2 : env.get 2 = .ptr (h.length + 3) 0 [] (.arr 16 (.int .u8))) (e5 : env.get 5 = nat 0) :
    Evs (evLoop (evC (cx62 callS15) n62_9) ⟨env, S62 h x1 x2 key c b k tr⟩) (fun r => ∃ env' c', r = (.exit 0, ⟨env', S62 h x1 x2 key c' b k tr⟩) ∧ Same [0, 1, 2, 3] env env' ∧ w4 c' = w4 c + 1#32 ∧ ∀ j, 4 ≤ j → c' j = c j) := by
  refine Evs.upto 4 (fun i s => ∃ env' c', s = ⟨env', S62 h x1 x2 key c' b k tr⟩ ∧ Same [0, 1, 2, 3] env env' ∧ env'.get 5 = nat i ∧ (∀ j, c' j = if j < i then 0#8 else c j) ∧ ∀ j, j < i → c j = 255#8) ?_ ?_
    ⟨_, _, rfl, Same.refl _ _, e5, fun j => by simp, fun j hj => absurd hj (by omega)⟩
  · rintro i s hi ⟨env', c', rfl, hs, f5, hc, h255⟩
    have f2 := (hs.get 2 rfl).trans e2
    have hci : c' i = c i := by rw [hc i, if_neg (Nat.lt_irrefl _)]
    unfold S62
    by_cases hz : c i + 1#8 = 0#8
    · have hz2 : c' i + 1#8 = 0#8 := by rw [hci]; exact hz
      repeat (first
        | (with_reducible refine Evs.assoc ?_)
        | ((with_reducible refine Evs.some_bnd ?_); try dsimp only [sqK_nrm, sqK_exit, sqK_ret])
        | ((with_reducible apply Evs.bcndT); (focus (simp (disch := omega) [f2, f5, hz2] <;> omega)))
        | ((with_reducible apply Evs.bcndF); (focus (simp (disch := omega) [f2, f5, hz2] <;> omega)))
        | ((with_reducible apply Evs.step); (focus ((conv => lhs; simp (disch := omega) [f2, f5, hz2]); done)); try dsimp only)
        | (simp only [sn62, sqK_nrm, sqK_exit, sqK_ret, inBlk_nrm, inBlk_ret, inBlk_same]))
      refine Evs.ret (.inl ⟨rfl, _, _, rfl, by repeat (first | exact hs | refine Same.put rfl ?_), by simp, fun j => ?_, fun j hj => ?_⟩)
      · by_cases hji : j = i
        · subst hji; rw [upd_same, if_pos (Nat.lt_succ_self _)]
        · rw [upd_ne _ _ hji, hc j]
          by_cases hlt : j < i
          · rw [if_pos hlt, if_pos (by omega)]
          · rw [if_neg hlt, if_neg (by omega)]
      · by_cases hji : j = i
        · subst hji; exact inc8_eq hz
        · exact h255 j (by omega)
    · have hz2 : ¬ c' i + 1#8 = 0#8 := by rw [hci]; exact hz
      repeat (first
        | (with_reducible refine Evs.assoc ?_)
        | ((with_reducible refine Evs.some_bnd ?_); try dsimp only [sqK_nrm, sqK_exit, sqK_ret])
        | ((with_reducible apply Evs.bcndT); (focus (simp (disch := omega) [f2, f5, hz2, inBlk_other] <;> omega)))
        | ((with_reducible apply Evs.bcndF); (focus (simp (disch := omega) [f2, f5, hz2, inBlk_other] <;> omega)))
        | ((with_reducible apply Evs.step); (focus ((conv => lhs; simp (disch := omega) [f2, f5, hz2, inBlk_other]); done)); try dsimp only)
        | (simp only [sn62, sqK_nrm, sqK_exit, sqK_ret, inBlk_nrm, inBlk_ret, inBlk_same]))
      refine Evs.ret (.inr ⟨by simp, _, _, rfl, by repeat (first | exact hs | refine Same.put rfl ?_), w4_next hi h255 (fun j => ?_) hz, fun j hj => ?_⟩)
      · by_cases hji : j = i
        · subst hji; rw [upd_same, if_neg (Nat.lt_irrefl _), if_pos rfl, hci]
        · rw [upd_ne _ _ hji, hc j, if_neg hji]
      · rw [upd_ne _ _ (by omega), hc j, if_neg (by omega)]
  · rintro s ⟨env', c', rfl, hs, f5, hc, h255⟩
    repeat (first
      | (with_reducible refine Evs.assoc ?_)
      | ((with_reducible refine Evs.some_bnd ?_); try dsimp only [sqK_nrm, sqK_exit, sqK_ret])
      | ((with_reducible apply Evs.bcndT); (focus (simp (disch := omega) [f5] <;> omega)))
      | ((with_reducible apply Evs.bcndF); (focus (simp (disch := omega) [f5] <;> omega)))
      | ((with_reducible apply Evs.step); (focus ((conv => lhs; simp (disch := omega) [f5]); done)); try dsimp only)
      | (simp only [sn62, sqK_nrm, sqK_exit, sqK_ret, inBlk_nrm, inBlk_ret, inBlk_same]))
    refine Evs.ret ⟨by simp, _, _, rfl, by repeat (first | exact hs | refine Same.put rfl ?_), w4_last h255 (fun j hj => by rw [hc j, if_pos hj]), fun j hj => by rw [hc j, if_neg (by omega)]⟩

/-- A byte of the stream, of a new block. -/
theorem walk62a (h0 : Heap) (x1 x2 : Blk) (key c b : Nat → BitVec 8) (tr : Heap) :
    ∃ c', evBody (cx62 callS15) Try.f62 n62_0 (caps62 h0.length) (S62 h0 x1 x2 key c b 16 tr) = some (u8 (encF (wd key) c 0), S62 h0 x1 x2 key c' (encF (wd key) c) 1 tr) ∧ w4 c' = w4 c + 1#32 ∧ ∀ j, 4 ≤ j → c' j = c j := by
  obtain ⟨h, hH⟩ : ∃ H, H = S62 h0 x1 x2 key c b 16 tr := ⟨_, rfl⟩
  rw [← hH]
  unfold caps62
  rw [b62]
  have main : Evs (evC (cx62 callS15) n62_0 ⟨[(0, .ptr (h0.length + 5) 0 [] (.int .i64)), (1, .ptr (h0.length + 2) 0 [] (.arr 32 (.int .u8))), (2, .ptr (h0.length + 3) 0 [] (.arr 16 (.int .u8))), (3, .ptr (h0.length + 4) 0 [] (.arr 16 (.int .u8))), (4, .junk), (5, .junk), (7, .junk), (12, .junk), (23, .junk)], h⟩) (fun r => ∃ env c', r = (.ret, ⟨env, S62 h0 x1 x2 key c' (encF (wd key) c) 1 tr⟩) ∧ env.get 4 = u8 (encF (wd key) c 0) ∧ w4 c' = w4 c + 1#32 ∧ ∀ j, 4 ≤ j → c' j = c j) := by
    obtain ⟨env, he⟩ : ∃ env : Env, env = [(0, .ptr (h0.length + 5) 0 [] (.int .i64)), (1, .ptr (h0.length + 2) 0 [] (.arr 32 (.int .u8))), (2, .ptr (h0.length + 3) 0 [] (.arr 16 (.int .u8))), (3, .ptr (h0.length + 4) 0 [] (.arr 16 (.int .u8))), (4, .junk), (5, .junk), (7, .junk), (12, .junk), (23, .junk)] := ⟨_, rfl⟩
    rw [← he]
    have g0 : env.get 0 = .ptr (h0.length + 5) 0 [] (.int .i64) := by rw [he]; rfl
    have g1 : env.get 1 = .ptr (h0.length + 2) 0 [] (.arr 32 (.int .u8)) := by rw [he]; rfl
    have g2 : env.get 2 = .ptr (h0.length + 3) 0 [] (.arr 16 (.int .u8)) := by rw [he]; rfl
    have g3 : env.get 3 = .ptr (h0.length + 4) 0 [] (.arr 16 (.int .u8)) := by rw [he]; rfl
    clear he
    subst hH
    unfold S62
    repeat (first
      | (with_reducible refine Evs.assoc ?_)
      | ((with_reducible refine Evs.some_bnd ?_); try dsimp only [sqK_nrm, sqK_exit, sqK_ret])
      | ((with_reducible apply Evs.bcndT); (focus (simp (disch := omega) [g0, g1, g2, g3] <;> omega)))
      | ((with_reducible apply Evs.bcndF); (focus (simp (disch := omega) [g0, g1, g2, g3] <;> omega)))
      | ((with_reducible apply Evs.step); (focus ((conv => lhs; simp (disch := omega) [g0, g1, g2, g3]); done)); try dsimp only)
      | (simp only [sn62, sqK_nrm, sqK_exit, sqK_ret, inBlk_nrm, inBlk_ret, inBlk_same]))
    refine Evs.bnd (inc62 h0 x1 x2 key c (encF (wd key) c) 0 tr _ ?_ ?_) ?_
    · simp [g2]
    · simp
    rintro r ⟨env', c', rfl, hs, hw, hc⟩
    have f0 := hs.get 0 rfl
    have f3 := hs.get 3 rfl
    simp only [env_get_put, g0, g3] at f0 f3
    simp at f0 f3
    unfold S62
    repeat (first
      | (with_reducible refine Evs.assoc ?_)
      | ((with_reducible refine Evs.some_bnd ?_); try dsimp only [sqK_nrm, sqK_exit, sqK_ret])
      | ((with_reducible apply Evs.bcndT); (focus (simp (disch := omega) [f0, f3] <;> omega)))
      | ((with_reducible apply Evs.bcndF); (focus (simp (disch := omega) [f0, f3] <;> omega)))
      | ((with_reducible apply Evs.step); (focus ((conv => lhs; simp (disch := omega) [f0, f3]); done)); try dsimp only)
      | (simp only [sn62, sqK_nrm, sqK_exit, sqK_ret, inBlk_nrm, inBlk_ret, inBlk_same]))
    exact Evs.ret ⟨_, c', rfl, by simp, hw, hc⟩
  obtain ⟨r, hr, env, c', rfl, e0, e1, e2⟩ := main
  refine ⟨c', ?_, e1, e2⟩
  rw [hr]
  simp [e0, oneOrTuple]

/-- A byte of the stream, of the same block. -/
theorem walk62b (h0 : Heap) (x1 x2 : Blk) (key c b : Nat → BitVec 8) (k : Nat) (tr : Heap) (hk : k < 16) :
    evBody (cx62 callS15) Try.f62 n62_0 (caps62 h0.length) (S62 h0 x1 x2 key c b k tr) = some (u8 (b k), S62 h0 x1 x2 key c b (k + 1) tr) := by
  obtain ⟨h, hH⟩ : ∃ H, H = S62 h0 x1 x2 key c b k tr := ⟨_, rfl⟩
  rw [← hH]
  unfold caps62
  rw [b62]
  have main : Evs (evC (cx62 callS15) n62_0 ⟨[(0, .ptr (h0.length + 5) 0 [] (.int .i64)), (1, .ptr (h0.length + 2) 0 [] (.arr 32 (.int .u8))), (2, .ptr (h0.length + 3) 0 [] (.arr 16 (.int .u8))), (3, .ptr (h0.length + 4) 0 [] (.arr 16 (.int .u8))), (4, .junk), (5, .junk), (7, .junk), (12, .junk), (23, .junk)], h⟩) (fun r => ∃ env, r = (.ret, ⟨env, S62 h0 x1 x2 key c b (k + 1) tr⟩) ∧ env.get 4 = u8 (b k)) := by
    obtain ⟨env, he⟩ : ∃ env : Env, env = [(0, .ptr (h0.length + 5) 0 [] (.int .i64)), (1, .ptr (h0.length + 2) 0 [] (.arr 32 (.int .u8))), (2, .ptr (h0.length + 3) 0 [] (.arr 16 (.int .u8))), (3, .ptr (h0.length + 4) 0 [] (.arr 16 (.int .u8))), (4, .junk), (5, .junk), (7, .junk), (12, .junk), (23, .junk)] := ⟨_, rfl⟩
    rw [← he]
    have g0 : env.get 0 = .ptr (h0.length + 5) 0 [] (.int .i64) := by rw [he]; rfl
    have g1 : env.get 1 = .ptr (h0.length + 2) 0 [] (.arr 32 (.int .u8)) := by rw [he]; rfl
    have g2 : env.get 2 = .ptr (h0.length + 3) 0 [] (.arr 16 (.int .u8)) := by rw [he]; rfl
    have g3 : env.get 3 = .ptr (h0.length + 4) 0 [] (.arr 16 (.int .u8)) := by rw [he]; rfl
    clear he
    subst hH
    unfold S62
    repeat (first
      | (with_reducible refine Evs.assoc ?_)
      | ((with_reducible refine Evs.some_bnd ?_); try dsimp only [sqK_nrm, sqK_exit, sqK_ret])
      | ((with_reducible apply Evs.bcndT); (focus (simp (disch := omega) [g0, g1, g2, g3] <;> omega)))
      | ((with_reducible apply Evs.bcndF); (focus (simp (disch := omega) [g0, g1, g2, g3] <;> omega)))
      | ((with_reducible apply Evs.step); (focus ((conv => lhs; simp (disch := omega) [g0, g1, g2, g3]); done)); try dsimp only)
      | (simp only [sn62, sqK_nrm, sqK_exit, sqK_ret, inBlk_nrm, inBlk_ret, inBlk_same]))
    exact Evs.ret ⟨_, rfl, by simp⟩
  obtain ⟨r, hr, env, rfl, e0⟩ := main
  rw [hr]
  simp [e0, oneOrTuple]

/-- The stream's function, as it is. -/
noncomputable def callS16 : Calling := addC callS15 62 fun args h => evBody (cx62 callS15) Try.f62 n62_0 args h
theorem callS16_ok : CallOK Try.prog callS16 := addC_ok callS15_ok k62 fun args h v h' he => s62 callS15_ok he
@[simp] theorem callS16_ne {f : Nat} (args : List AV) (h : Heap) (hf : f ≠ 62) : callS16 f args h = callS15 f args h := addC_ne _ _ _ args h hf
@[simp] theorem callS16_sne {f : Nat} (args : List AV) (h : Heap) (hf : f ≠ 62) : still callS16 f args h = still callS15 f args h := still_ne _ _ _ args h hf
theorem callS16_62 (args : List AV) (h : Heap) : callS16 62 args h = evBody (cx62 callS15) Try.f62 n62_0 args h := addC_same _ _ _ _ _

/-- The counter block, q blocks on. -/
def ctr (c : Nat → BitVec 8) (q : Nat) : Nat → BitVec 8 := fun j => if j < 4 then ((w4 c + BitVec.ofNat 32 q) >>> (8 * j)).setWidth 8 else c j
theorem ctr_of {c c' : Nat → BitVec 8} {q : Nat} (h : w4 c' = w4 c + BitVec.ofNat 32 q) (hc : ∀ j, 4 ≤ j → c' j = c j) (j : Nat) : c' j = ctr c q j := by
  unfold ctr
  by_cases hj : j < 4
  · rw [if_pos hj, ← h]
    apply BitVec.eq_of_toNat_eq
    rw [BitVec.toNat_setWidth, BitVec.toNat_ushiftRight, w4_toNat, Nat.shiftRight_eq_div_pow]
    have a0 := (c' 0).isLt
    have a1 := (c' 1).isLt
    have a2 := (c' 2).isLt
    have a3 := (c' 3).isLt
    rcases (by omega : j = 0 ∨ j = 1 ∨ j = 2 ∨ j = 3) with rfl | rfl | rfl | rfl
    all_goals
      simp only [Nat.mul_zero, Nat.mul_one, Nat.reduceMul, Nat.reducePow]
      omega
  · rw [if_neg hj]; exact hc j (by omega)
/-- What is turned. -/
def turnF (key t : Nat → BitVec 8) (n : Nat) (g : Nat → BitVec 8) : Nat → BitVec 8 := fun j => if j < n then g j ^^^ encF (wd key) (ctr (topF t) (j / 16)) (j % 16) else 0#8

def I46 (h : Heap) (key t : Nat → BitVec 8) (x : AV) (n : Nat) (g : Nat → BitVec 8) (i : Nat) (s : St) : Prop :=
  ∃ env' c' b' k' q o, s = ⟨env', S62 h ⟨arr 32 key, 0, .own⟩ ⟨arr 16 t, 0, .own⟩ key c' b' k' [⟨arr (n + 16) o, 0, .own⟩]⟩ ∧ env'.get 7 = .fn 62 (caps62 h.length) ∧ env'.get 8 = .slice (h.length + 6) 0 [] (.int .u8) 0 n (some (n + 16)) ∧ env'.get 20 = x ∧ env'.get 21 = nat n ∧ env'.get 22 = nat i ∧
    k' + 16 * q = i + 16 ∧ k' ≤ 16 ∧ (0 < q → 1 ≤ k') ∧ w4 c' = w4 (topF t) + BitVec.ofNat 32 q ∧ (∀ j, 4 ≤ j → c' j = topF t j) ∧ (0 < q → ∀ j, j < 16 → b' j = encF (wd key) (ctr (topF t) (q - 1)) j) ∧ ∀ j, j < n + 16 → o j = if j < i then turnF key t n g j else 0#8

set_option maxHeartbeats 4000000 in
theorem walk46 (h : Heap) (key t : Nat → BitVec 8) (x : AV) (n : Nat) (g : Nat → BitVec 8) (hb : Byt h x n g) (hn : n < 100000000) :
    ∃ tr, evBody (cx46 callS16) Try.f46 n46_0 [arr 32 key, arr 16 t, x] h = some (.slice (h.length + 6) 0 [] (.int .u8) 0 n (some (n + 16)), h ++ tr) ∧ tr[6]? = some ⟨arr (n + 16) (turnF key t n g), 0, .own⟩ := by
  rw [b46]
  have main : Evs (evC (cx46 callS16) n46_0 ⟨[(0, arr 32 key), (1, arr 16 t), (2, x), (3, .junk), (4, .junk), (5, .junk), (6, .junk), (7, .junk), (8, .junk), (9, .junk), (10, .junk), (20, .junk), (21, .junk), (22, .junk), (23, .junk)], h⟩) (fun r => ∃ env tr, r = (.ret, ⟨env, h ++ tr⟩) ∧ env.get 6 = .slice (h.length + 6) 0 [] (.int .u8) 0 n (some (n + 16)) ∧ tr[6]? = some ⟨arr (n + 16) (turnF key t n g), 0, .own⟩) := by
    obtain ⟨env, he⟩ : ∃ env : Env, env = [(0, arr 32 key), (1, arr 16 t), (2, x), (3, .junk), (4, .junk), (5, .junk), (6, .junk), (7, .junk), (8, .junk), (9, .junk), (10, .junk), (20, .junk), (21, .junk), (22, .junk), (23, .junk)] := ⟨_, rfl⟩
    rw [← he]
    have g0 : env.get 0 = arr 32 key := by rw [he]; rfl
    have g1 : env.get 1 = arr 16 t := by rw [he]; rfl
    have g2 : env.get 2 = x := by rw [he]; rfl
    clear he
    have hl := hb.len
    have mk : ∀ H : Heap, mMake (.int .u8) 1 (u8 0#8) (nat n) (nat (n + 16)) H = some (.slice H.length 0 [] (.int .u8) 0 n (some (n + 16)), H ++ [⟨arr (n + 16) fun _ => 0#8, 0, .own⟩]) := fun H => mMake_u8 n (n + 16) H (by omega) (by unfold roomBound; omega)
    repeat (first
      | (with_reducible refine Evs.assoc ?_)
      | ((with_reducible refine Evs.some_bnd ?_); try dsimp only [sqK_nrm, sqK_exit, sqK_ret])
      | ((with_reducible apply Evs.bcndT); (focus (simp (disch := omega) [g0, g1, g2, hl, mk, strm] <;> omega)))
      | ((with_reducible apply Evs.bcndF); (focus (simp (disch := omega) [g0, g1, g2, hl, mk, strm] <;> omega)))
      | ((with_reducible apply Evs.step); (focus ((conv => lhs; simp (disch := omega) [g0, g1, g2, hl, mk, strm]); done)); try dsimp only)
      | (simp only [sn46, sqK_nrm, sqK_exit, sqK_ret, inBlk_nrm, inBlk_ret, inBlk_same]))
    refine Evs.bnd (Q := fun r => ∃ env' c' b' k' o, r = (.exit 0, ⟨env', S62 h ⟨arr 32 key, 0, .own⟩ ⟨arr 16 t, 0, .own⟩ key c' b' k' [⟨arr (n + 16) o, 0, .own⟩]⟩) ∧ env'.get 8 = .slice (h.length + 6) 0 [] (.int .u8) 0 n (some (n + 16)) ∧ ∀ j, j < n + 16 → o j = turnF key t n g j) ?_ ?_
    · refine Evs.up n (fun i s => I46 h key t x n g i s) ?_ ?_
        ⟨_, topF t, _, 16, 0, _, rfl, by simp [caps62], by simp, by simp [g2], by simp, by simp, by omega, by omega, by omega, by simp, fun j _ => rfl, fun hq => absurd hq (by omega), fun j _ => by simp⟩
      · rintro i s hi ⟨env', c', b', k', q, o, rfl, e7, e8, e20, e21, e22, i1, i2, i3, i4, i5, i6, i7⟩
        obtain ⟨p, p1, p2, p3⟩ := hb.idx hi
        by_cases hk : k' = 16
        · subst hk
          obtain ⟨c2, w1, w2, w3⟩ := walk62a h ⟨arr 32 key, 0, .own⟩ ⟨arr 16 t, 0, .own⟩ key c' b' [⟨arr (n + 16) o, 0, .own⟩]
          rw [← callS16_62] at w1
          unfold S62 at w1 ⊢
          repeat (first
            | (with_reducible refine Evs.assoc ?_)
            | ((with_reducible refine Evs.some_bnd ?_); try dsimp only [sqK_nrm, sqK_exit, sqK_ret])
            | ((with_reducible apply Evs.bcndT); (focus (simp (disch := omega) [e7, e8, e20, e21, e22, p1, p3, w1] <;> omega)))
            | ((with_reducible apply Evs.bcndF); (focus (simp (disch := omega) [e7, e8, e20, e21, e22, p1, p3, w1] <;> omega)))
            | ((with_reducible apply Evs.step); (focus ((conv => lhs; simp (disch := omega) [e7, e8, e20, e21, e22, p1, p3, w1]); done)); try dsimp only)
            | (simp only [sn46, sqK_nrm, sqK_exit, sqK_ret, inBlk_nrm, inBlk_ret, inBlk_same]))
          refine Evs.ret ⟨rfl, _, c2, _, 1, q + 1, _, rfl, by simp [e7], by simp [e8], by simp [e20], by simp [e21], by simp, by omega, by omega, by omega, ?_, fun j hj => (w3 j hj).trans (i5 j hj), fun _ j hj => ?_, fun j hj => ?_⟩
          · rw [w2, i4, BitVec.ofNat_add, BitVec.add_assoc]
          · exact encF_congr (fun i _ p hp => rfl) (fun j _ => ctr_of i4 i5 j) j hj
          · by_cases hji : j = i
            · subst hji
              rw [upd_same, if_pos (Nat.lt_succ_self _)]
              unfold turnF
              rw [if_pos hi, show j / 16 = q by omega, show j % 16 = 0 by omega]
              rw [encF_congr (fun i _ p hp => rfl) (fun j _ => ctr_of i4 i5 j) 0 (by omega)]
            · rw [upd_ne _ _ hji, i7 j hj]
              by_cases hlt : j < i
              · rw [if_pos hlt, if_pos (by omega)]
              · rw [if_neg hlt, if_neg (by omega)]
        · have w1 := walk62b h ⟨arr 32 key, 0, .own⟩ ⟨arr 16 t, 0, .own⟩ key c' b' k' [⟨arr (n + 16) o, 0, .own⟩] (by omega)
          rw [← callS16_62] at w1
          have hq : 0 < q := by omega
          unfold S62 at w1 ⊢
          repeat (first
            | (with_reducible refine Evs.assoc ?_)
            | ((with_reducible refine Evs.some_bnd ?_); try dsimp only [sqK_nrm, sqK_exit, sqK_ret])
            | ((with_reducible apply Evs.bcndT); (focus (simp (disch := omega) [e7, e8, e20, e21, e22, p1, p3, w1] <;> omega)))
            | ((with_reducible apply Evs.bcndF); (focus (simp (disch := omega) [e7, e8, e20, e21, e22, p1, p3, w1] <;> omega)))
            | ((with_reducible apply Evs.step); (focus ((conv => lhs; simp (disch := omega) [e7, e8, e20, e21, e22, p1, p3, w1]); done)); try dsimp only)
            | (simp only [sn46, sqK_nrm, sqK_exit, sqK_ret, inBlk_nrm, inBlk_ret, inBlk_same]))
          refine Evs.ret ⟨rfl, _, c', _, k' + 1, q, _, rfl, by simp [e7], by simp [e8], by simp [e20], by simp [e21], by simp, by omega, by omega, by omega, i4, i5, i6, fun j hj => ?_⟩
          by_cases hji : j = i
          · subst hji
            rw [upd_same, if_pos (Nat.lt_succ_self _)]
            unfold turnF
            rw [if_pos hi, i6 hq k' (by omega), show j / 16 = q - 1 by omega, show j % 16 = k' by omega]
          · rw [upd_ne _ _ hji, i7 j hj]
            by_cases hlt : j < i
            · rw [if_pos hlt, if_pos (by omega)]
            · rw [if_neg hlt, if_neg (by omega)]
      · rintro s ⟨env', c', b', k', q, o, rfl, e7, e8, e20, e21, e22, i1, i2, i3, i4, i5, i6, i7⟩
        repeat (first
          | (with_reducible refine Evs.assoc ?_)
          | ((with_reducible refine Evs.some_bnd ?_); try dsimp only [sqK_nrm, sqK_exit, sqK_ret])
          | ((with_reducible apply Evs.bcndT); (focus (simp (disch := omega) [e21, e22] <;> omega)))
          | ((with_reducible apply Evs.bcndF); (focus (simp (disch := omega) [e21, e22] <;> omega)))
          | ((with_reducible apply Evs.step); (focus ((conv => lhs; simp (disch := omega) [e21, e22]); done)); try dsimp only)
          | (simp only [sn46, sqK_nrm, sqK_exit, sqK_ret, inBlk_nrm, inBlk_ret, inBlk_same]))
        refine Evs.ret ⟨by simp, _, c', b', k', o, rfl, by simp [e8], fun j hj => ?_⟩
        rw [i7 j hj]
        by_cases hlt : j < n
        · rw [if_pos hlt]
        · rw [if_neg hlt]; unfold turnF; rw [if_neg hlt]
    · rintro r ⟨env', c', b', k', o, rfl, e8, ho⟩
      unfold S62
      repeat (first
        | (with_reducible refine Evs.assoc ?_)
        | ((with_reducible refine Evs.some_bnd ?_); try dsimp only [sqK_nrm, sqK_exit, sqK_ret])
        | ((with_reducible apply Evs.bcndT); (focus (simp (disch := omega) [e8] <;> omega)))
        | ((with_reducible apply Evs.bcndF); (focus (simp (disch := omega) [e8] <;> omega)))
        | ((with_reducible apply Evs.step); (focus ((conv => lhs; simp (disch := omega) [e8]); done)); try dsimp only)
        | (simp only [sn46, sqK_nrm, sqK_exit, sqK_ret, inBlk_nrm, inBlk_ret, inBlk_same]))
      refine Evs.ret ⟨_, _, rfl, by simp [e8], ?_⟩
      simp only [List.getElem?_cons_succ, List.getElem?_cons_zero]
      rw [arr_congr ho]
  obtain ⟨r, hr, env, tr, rfl, e0, e1⟩ := main
  refine ⟨tr, ?_, e1⟩
  rw [hr]
  simp [e0, oneOrTuple]

theorem turnF_congr {k k' t t' : Nat → BitVec 8} {n : Nat} {g g' : Nat → BitVec 8} (hk : ∀ i, i < 32 → k i = k' i) (ht : ∀ i, i < 16 → t i = t' i) (hg : ∀ i, i < n → g i = g' i) : ∀ j, turnF k t n g j = turnF k' t' n g' j := by
  intro j
  have e1 : ∀ i, i < 16 → topF t i = topF t' i := fun i hi => by
    unfold topF upd
    split
    · rw [ht 15 (by omega)]
    · exact ht i hi
  unfold turnF
  by_cases hj : j < n
  · have key : ∀ i, i < 16 → encF (wd k) (ctr (topF t) (j / 16)) i = encF (wd k') (ctr (topF t') (j / 16)) i := encF_congr (fun i _ p hp => wd_congr hk i p hp) fun i hi => by
      unfold ctr w4
      rw [e1 0 (by omega), e1 1 (by omega), e1 2 (by omega), e1 3 (by omega)]
      by_cases h4 : i < 4
      · rw [if_pos h4, if_pos h4]
      · rw [if_neg h4, if_neg h4]; exact e1 i hi
    rw [if_pos hj, if_pos hj, hg j hj, key _ (Nat.mod_lt _ (by decide))]
  · rw [if_neg hj, if_neg hj]

noncomputable def c46 := conC (fun x : (Nat → BitVec 8) × (Nat → BitVec 8) × (AV) × (Nat) × (Nat → BitVec 8) => [arr 32 x.1, arr 16 x.2.1, x.2.2.1]) (fun (x : (Nat → BitVec 8) × (Nat → BitVec 8) × (AV) × (Nat) × (Nat → BitVec 8)) h => Byt h x.2.2.1 x.2.2.2.1 x.2.2.2.2 ∧ x.2.2.2.1 < 100000000) (fun (x : (Nat → BitVec 8) × (Nat → BitVec 8) × (AV) × (Nat) × (Nat → BitVec 8)) h => (.slice h.length 0 [] (.int .u8) 0 x.2.2.2.1 (some (x.2.2.2.1 + 16)), h ++ [(⟨arr (x.2.2.2.1 + 16) (turnF x.1 x.2.1 x.2.2.2.1 x.2.2.2.2), 0, .own⟩ : Blk)]))
noncomputable def callS17 : Calling := addC callS16 46 c46
theorem c46_eq (k : Nat → BitVec 8) (t : Nat → BitVec 8) (b : AV) (n : Nat) (g : Nat → BitVec 8) (h : Heap) (hc : Byt h b n g ∧ n < 100000000) : c46 [arr 32 k, arr 16 t, b] h = some (.slice h.length 0 [] (.int .u8) 0 n (some (n + 16)), h ++ [(⟨arr (n + 16) (turnF k t n g), 0, .own⟩ : Blk)]) :=
  conC_eqP (enc := fun x : (Nat → BitVec 8) × (Nat → BitVec 8) × (AV) × (Nat) × (Nat → BitVec 8) => [arr 32 x.1, arr 16 x.2.1, x.2.2.1]) (P := fun (x : (Nat → BitVec 8) × (Nat → BitVec 8) × (AV) × (Nat) × (Nat → BitVec 8)) h => Byt h x.2.2.1 x.2.2.2.1 x.2.2.2.2 ∧ x.2.2.2.1 < 100000000) (a := (k, t, b, n, g)) (f := fun (x : (Nat → BitVec 8) × (Nat → BitVec 8) × (AV) × (Nat) × (Nat → BitVec 8)) h => (.slice h.length 0 [] (.int .u8) 0 x.2.2.2.1 (some (x.2.2.2.1 + 16)), h ++ [(⟨arr (x.2.2.2.1 + 16) (turnF x.1 x.2.1 x.2.2.2.1 x.2.2.2.2), 0, .own⟩ : Blk)])) (fun x y h hp hq e => by
    have e1 := arr_inj.1 (List.cons.inj e).1
    have e2 := arr_inj.1 (List.cons.inj (List.cons.inj e).2).1
    have e3 := (List.cons.inj (List.cons.inj (List.cons.inj e).2).2).1
    rw [e3] at hp
    obtain ⟨e4, e5⟩ := hp.1.det hq.1
    rw [← e4] 
    rw [arr_congr fun i _ => turnF_congr e1 e2 e5 i]
    ) hc
theorem callS17_ok : CallOK Try.prog callS17 := addC_con callS16_ok k46 fun x h hx => by
  obtain ⟨t, ht, h6⟩ := walk46 h _ _ _ _ _ hx.1 hx.2
  exact (s46 callS16_ok ht).pull t 6 _ h6 ⟨_, _, rfl⟩
@[simp] theorem callS17_ne {f : Nat} (args : List AV) (h : Heap) (hf : f ≠ 46) : callS17 f args h = callS16 f args h := addC_ne _ _ _ args h hf
@[simp] theorem callS17_sne {f : Nat} (args : List AV) (h : Heap) (hf : f ≠ 46) : still callS17 f args h = still callS16 f args h := still_ne _ _ _ args h hf
theorem callS17_46 (k : Nat → BitVec 8) (t : Nat → BitVec 8) (b : AV) (n : Nat) (g : Nat → BitVec 8) (h : Heap) (hc : Byt h b n g ∧ n < 100000000) : callS17 46 [arr 32 k, arr 16 t, b] h = some (.slice h.length 0 [] (.int .u8) 0 n (some (n + 16)), h ++ [(⟨arr (n + 16) (turnF k t n g), 0, .own⟩ : Blk)]) := by
  unfold callS17; rw [addC_same]; exact c46_eq k t b n g h hc

end Go.Vab

/- How the evaluator reads the functions of a seat. Printed by wip/tools/gen.py (own work). -/
namespace Go.Vab
open Go Go.Proofs
/-! vestry/siv.Seal -/
noncomputable def cx26 (call : Calling) : Ctx := ⟨call, TT, 39, [13, 14, 15, 16, 17, 18, 19, 21, 22, 23, 24, 25, 26, 27, 28, 29, 30, 31, 32, 33, 34, 35, 36, 37, 38]⟩
noncomputable def n26_0 : Code := bodyOf Try.f26
noncomputable def n26_1 : Code := cR n26_0
noncomputable def n26_2 : Code := cL n26_1
noncomputable def n26_3 : Code := cR n26_2
noncomputable def n26_4 : Code := cL n26_3
noncomputable def n26_5 : Code := cR n26_4
noncomputable def n26_6 : Code := cR n26_3
noncomputable def n26_7 : Code := cR n26_1
noncomputable def n26_8 : Code := cR n26_7
noncomputable def n26_9 : Code := cR n26_8
noncomputable def n26_10 : Code := cR n26_9
@[simp] theorem n26_5_eq (call : Calling) (s : St) : evC (cx26 call) n26_5 s = some (.ret, s) := xE
@[simp] theorem n26_4_eq (call : Calling) (env : Env) (h : Heap) : evC (cx26 call) n26_4 ⟨env, h⟩ = ( evC (cx26 call) n26_5 ⟨(Env.put (Env.put env 8 .nilslice) 9 (nat 3)), h⟩) := (xSR 2 (cOps (cL n26_4)) (cR n26_4)).trans (by
  refine opsK_0 ?_
  refine oT 8 .nilslice ?_
  refine oT 9 (nat 3) ?_
  exact oE)
@[simp] theorem n26_6_eq (call : Calling) (s : St) : evC (cx26 call) n26_6 s = some (.nrm, s) := xK
@[simp] theorem n26_3_eq (call : Calling) (s : St) : evC (cx26 call) n26_3 s = cnd (s.env.get 20) (evC (cx26 call) n26_4 s) (evC (cx26 call) n26_6 s) := xC 20 _ _
@[simp] theorem n26_2_eq (call : Calling) (env : Env) (h : Heap) : evC (cx26 call) n26_2 ⟨env, h⟩ = (bnd (pureV h (mLenS (env.get 2))) fun r1 => bnd (pureV r1.2 (mBin .gtr r1.1 (nat 65536))) fun r2 => bnd (gdo r2.1 false (some ((env.get 3), r2.2)) r2.2) fun r4 => bnd (gdo r2.1 false (pureV r4.2 (mLenS r4.1)) r4.2) fun r5 => bnd (gdo r2.1 false (pureV r5.2 (mBin .gtr r5.1 (nat 65536))) r5.2) fun r6 => bnd (pureV r6.2 (mPick r2.1 (.bool true) r6.1)) fun r7 => evC (cx26 call) n26_3 ⟨(Env.put env 20 r7.1), r7.2⟩) := (xSR 1 (cOps (cL n26_2)) (cR n26_2)).trans (by
  refine opsK_0 ?_
  refine oT 13 (env.get 2) ?_
  refine oP 14 fun r1 => ?_
  refine oP 15 fun r2 => ?_
  refine oT 16 r2.1 ?_
  refine oP 17 fun r4 => ?_
  refine oP 18 fun r5 => ?_
  refine oP 19 fun r6 => ?_
  refine oP 20 fun r7 => ?_
  exact oE)
@[simp] theorem n26_10_eq (call : Calling) (s : St) : evC (cx26 call) n26_10 s = some (.ret, s) := xE
theorem n26_9_ok : loud (cOps (cL n26_9)).toList = true := by kernel_rfl
@[simp] theorem n26_9_eq (call : Calling) (env : Env) (h : Heap) : evC (cx26 call) n26_9 ⟨env, h⟩ = (bnd (pureV h (mLoad (.arr 32 (.int .u8)) (env.get 11) h)) fun r0 => bnd (pureV r0.2 (mLoad (.arr 16 (.int .u8)) (env.get 12) r0.2)) fun r1 => bnd (call 46 [r0.1, r1.1, (env.get 3)] r1.2) fun r3 => bnd (pureV r3.2 (mSliceA (.arr 16 (.int .u8)) (env.get 12) none none none)) fun r4 => bnd (mApp (.int .u8) 1 r3.1 r4.1 r4.2) fun r5 => evC (cx26 call) n26_10 ⟨(Env.put (Env.put env 8 r5.1) 9 (nat 0)), r5.2⟩) := (xSDL 5 (cOps (cL n26_9)) (cR n26_9) n26_9_ok).trans (by
  refine opsK_0 ?_
  refine oP 33 fun r0 => ?_
  refine oP 34 fun r1 => ?_
  refine oT 35 (env.get 3) ?_
  refine oP 36 fun r3 => ?_
  refine oP 37 fun r4 => ?_
  refine oP 38 fun r5 => ?_
  refine oT 8 r5.1 ?_
  refine oT 9 (nat 0) ?_
  exact oE)
@[simp] theorem n26_8_eq (call : Calling) (env : Env) (h : Heap) : evC (cx26 call) n26_8 ⟨env, h⟩ = (bnd (pureV h (mLoad (.arr 16 (.int .u8)) (env.get 10) h)) fun r0 => bnd (pureV r0.2 (mLoad (.arr 32 (.int .u8)) (env.get 11) r0.2)) fun r1 => bnd (pureV r1.2 (mLoad (.arr 12 (.int .u8)) (env.get 5) r1.2)) fun r2 => bnd (call 45 [r0.1, r1.1, r2.1, (env.get 2), (env.get 3)] r2.2) fun r5 => bnd (mNew (.arr 16 (.int .u8)) (arr 16 fun _ => 0#8) r5.2) fun r6 => bnd (stU (.arr 16 (.int .u8)) r6.1 r5.1 r6.2) fun r7 => evC (cx26 call) n26_9 ⟨(Env.put env 12 r6.1), r7.2⟩) := (xSR 4 (cOps (cL n26_8)) (cR n26_8)).trans (by
  refine opsK_0 ?_
  refine oP 27 fun r0 => ?_
  refine oP 28 fun r1 => ?_
  refine oP 29 fun r2 => ?_
  refine oT 30 (env.get 2) ?_
  refine oT 31 (env.get 3) ?_
  refine oP 32 fun r5 => ?_
  refine oP 12 fun r6 => ?_
  refine oN fun r7 => ?_
  exact oE)
@[simp] theorem n26_7_eq (call : Calling) (env : Env) (h : Heap) : evC (cx26 call) n26_7 ⟨env, h⟩ = (bnd (pureV h (mLoad (.arr 32 (.int .u8)) (env.get 4) h)) fun r0 => bnd (pureV r0.2 (mLoad (.arr 12 (.int .u8)) (env.get 5) r0.2)) fun r1 => bnd (call 34 [r0.1, r1.1] r1.2) fun r2 => bnd (pureV r2.2 (mExtract r2.1 0)) fun r4 => bnd (pureV r4.2 (mExtract r2.1 1)) fun r5 => bnd (mNew (.arr 16 (.int .u8)) (arr 16 fun _ => 0#8) r5.2) fun r6 => bnd (mNew (.arr 32 (.int .u8)) (arr 32 fun _ => 0#8) r6.2) fun r7 => bnd (stU (.arr 16 (.int .u8)) r6.1 r4.1 r7.2) fun r8 => bnd (stU (.arr 32 (.int .u8)) r7.1 r5.1 r8.2) fun r9 => evC (cx26 call) n26_8 ⟨(Env.put (Env.put env 10 r6.1) 11 r7.1), r9.2⟩) := (xSR 3 (cOps (cL n26_7)) (cR n26_7)).trans (by
  refine opsK_0 ?_
  refine oP 22 fun r0 => ?_
  refine oP 23 fun r1 => ?_
  refine oP 24 fun r2 => ?_
  refine oT 21 r2.1 ?_
  refine oP 25 fun r4 => ?_
  refine oP 26 fun r5 => ?_
  refine oP 10 fun r6 => ?_
  refine oP 11 fun r7 => ?_
  refine oN fun r8 => ?_
  refine oN fun r9 => ?_
  exact oE)
@[simp] theorem n26_1_eq (call : Calling) (s : St) : evC (cx26 call) n26_1 s = bnd (evC (cx26 call) n26_2 s) (sqK (evC (cx26 call) n26_7)) := xS _ _
@[simp] theorem n26_0_eq (call : Calling) (env : Env) (h : Heap) : evC (cx26 call) n26_0 ⟨env, h⟩ = (bnd (mNew (.arr 32 (.int .u8)) (env.get 0) h) fun r0 => bnd (mNew (.arr 12 (.int .u8)) (env.get 1) r0.2) fun r1 => evC (cx26 call) n26_1 ⟨(Env.put (Env.put (Env.put (Env.put env 4 r0.1) 5 r1.1) 8 .nilslice) 9 (nat 0)), r1.2⟩) := (xSR 0 (cOps (cL n26_0)) (cR n26_0)).trans (by
  refine opsK_0 ?_
  refine oP 4 fun r0 => ?_
  refine oP 5 fun r1 => ?_
  refine oT 8 .nilslice ?_
  refine oT 9 (nat 0) ?_
  exact oE)
theorem b26 (call : Calling) (a0 a1 a2 a3 : AV) (h : Heap) : evBody (cx26 call) Try.f26 n26_0 [a0, a1, a2, a3] h = bnd (evC (cx26 call) n26_0 ⟨[(0, a0), (1, a1), (2, a2), (3, a3), (4, .junk), (5, .junk), (6, .junk), (7, .junk), (8, .junk), (9, .junk), (10, .junk), (11, .junk), (12, .junk), (20, .junk)], h⟩) (retK fun s => bnd (bnd (some (s.env.get 8)) fun v => bnd (bnd (some (s.env.get 9)) fun v => bnd (some []) fun vs => some (v :: vs)) fun vs => some (v :: vs)) fun vs => some (oneOrTuple vs)) := by kernel_rfl
theorem fn26 : Try.prog.funcs[26]? = some Try.f26 := by kernel_rfl
theorem k26 : Callable Try.prog 26 := ⟨Try.f26, fn26, by kernel_rfl, by kernel_rfl⟩
theorem s26 {call : Calling} (hc : CallOK Try.prog call) {args : List AV} {h h' : Heap} {v : AV} (he : evBody (cx26 call) Try.f26 n26_0 args h = some (v, h')) : Spec Try.prog 26 args h v h' := body_sound (C := cx26 call) TT_ok hc mixed_ok fn26 (by kernel_rfl) (by kernel_rfl) he
def sn26 := And.intro n26_5_eq (And.intro n26_4_eq (And.intro n26_6_eq (And.intro n26_3_eq (And.intro n26_2_eq (And.intro n26_10_eq (And.intro n26_9_eq (And.intro n26_8_eq (And.intro n26_7_eq (And.intro n26_1_eq (n26_0_eq))))))))))
end Go.Vab

/-
  Seal, walked.
-/
namespace Go.Vab
open Go Go.Proofs

def bigS (na nt : Nat) : Prop := 65536 < na ∨ 65536 < nt
instance (na nt : Nat) : Decidable (bigS na nt) := inferInstanceAs (Decidable (_ ∨ _))
def sealC (na nt : Nat) : Nat := if bigS na nt then 3 else 0
def tagS (key nonce : Nat → BitVec 8) (na : Nat) (a : Nat → BitVec 8) (nt : Nat) (t : Nat → BitVec 8) : Nat → BitVec 8 := tagF (keyA key nonce) (keyE key nonce) nonce na a nt t
def sealF (key nonce : Nat → BitVec 8) (na : Nat) (a : Nat → BitVec 8) (nt : Nat) (t : Nat → BitVec 8) : Nat → BitVec 8 := fun j =>
  if j < nt then turnF (keyE key nonce) (tagS key nonce na a nt t) nt t j else tagS key nonce na a nt t (j - nt)
theorem tagS_congr {k k' n n' : Nat → BitVec 8} {na : Nat} {a a' : Nat → BitVec 8} {nt : Nat} {t t' : Nat → BitVec 8} (hk : ∀ i, i < 32 → k i = k' i) (hn : ∀ i, i < 12 → n i = n' i)
    (ha : ∀ i, i < na → a i = a' i) (ht : ∀ i, i < nt → t i = t' i) : ∀ j, j < 16 → tagS k n na a nt t j = tagS k' n' na a' nt t' j := tagF_congr (keyA_congr hk hn) (keyE_congr hk hn) hn ha ht
theorem sealF_congr {k k' n n' : Nat → BitVec 8} {na : Nat} {a a' : Nat → BitVec 8} {nt : Nat} {t t' : Nat → BitVec 8} (hk : ∀ i, i < 32 → k i = k' i) (hn : ∀ i, i < 12 → n i = n' i)
    (ha : ∀ i, i < na → a i = a' i) (ht : ∀ i, i < nt → t i = t' i) : ∀ j, j < nt + 16 → sealF k n na a nt t j = sealF k' n' na a' nt t' j := fun j hj => by
  unfold sealF
  split
  · exact turnF_congr (keyE_congr hk hn) (tagS_congr hk hn ha ht) ht j
  · exact tagS_congr hk hn ha ht _ (by omega)

theorem walk26b (h : Heap) (key nonce : Nat → BitVec 8) (xa xt : AV) (na nt : Nat) (a t : Nat → BitVec 8) (ha : Byt h xa na a) (ht : Byt h xt nt t) (hb : bigS na nt) :
    ∃ tr, evBody (cx26 callS17) Try.f26 n26_0 [arr 32 key, arr 12 nonce, xa, xt] h = some (.tuple [.nilslice, nat 3], h ++ tr) := by
  have la := ha.len
  have lt := ht.len
  rw [b26]
  have main : Evs (evC (cx26 callS17) n26_0 ⟨[(0, arr 32 key), (1, arr 12 nonce), (2, xa), (3, xt), (4, .junk), (5, .junk), (6, .junk), (7, .junk), (8, .junk), (9, .junk), (10, .junk), (11, .junk), (12, .junk), (20, .junk)], h⟩) (fun r => ∃ env tr, r = (.ret, ⟨env, h ++ tr⟩) ∧ env.get 8 = .nilslice ∧ env.get 9 = nat 3) := by
    obtain ⟨env, he⟩ : ∃ env : Env, env = [(0, arr 32 key), (1, arr 12 nonce), (2, xa), (3, xt), (4, .junk), (5, .junk), (6, .junk), (7, .junk), (8, .junk), (9, .junk), (10, .junk), (11, .junk), (12, .junk), (20, .junk)] := ⟨_, rfl⟩
    rw [← he]
    have g0 : env.get 0 = arr 32 key := by rw [he]; rfl
    have g1 : env.get 1 = arr 12 nonce := by rw [he]; rfl
    have g2 : env.get 2 = xa := by rw [he]; rfl
    have g3 : env.get 3 = xt := by rw [he]; rfl
    clear he
    by_cases h1 : 65536 < na
    · repeat (first
        | (with_reducible refine Evs.assoc ?_)
        | ((with_reducible refine Evs.some_bnd ?_); try dsimp only [sqK_nrm, sqK_exit, sqK_ret])
        | ((with_reducible apply Evs.bcndT); (focus (simp (disch := omega) [g0, g1, g2, g3, la, lt, h1] <;> omega)))
        | ((with_reducible apply Evs.bcndF); (focus (simp (disch := omega) [g0, g1, g2, g3, la, lt, h1] <;> omega)))
        | ((with_reducible apply Evs.step); (focus ((conv => lhs; simp (disch := omega) [g0, g1, g2, g3, la, lt, h1]); done)); try dsimp only)
        | (simp only [sn26, sqK_nrm, sqK_exit, sqK_ret, inBlk_nrm, inBlk_ret, inBlk_same]))
      exact Evs.ret ⟨_, _, rfl, by simp, by simp⟩
    · have h2 : 65536 < nt := hb.resolve_left h1
      repeat (first
        | (with_reducible refine Evs.assoc ?_)
        | ((with_reducible refine Evs.some_bnd ?_); try dsimp only [sqK_nrm, sqK_exit, sqK_ret])
        | ((with_reducible apply Evs.bcndT); (focus (simp (disch := omega) [g0, g1, g2, g3, la, lt, h1, h2] <;> omega)))
        | ((with_reducible apply Evs.bcndF); (focus (simp (disch := omega) [g0, g1, g2, g3, la, lt, h1, h2] <;> omega)))
        | ((with_reducible apply Evs.step); (focus ((conv => lhs; simp (disch := omega) [g0, g1, g2, g3, la, lt, h1, h2]); done)); try dsimp only)
        | (simp only [sn26, sqK_nrm, sqK_exit, sqK_ret, inBlk_nrm, inBlk_ret, inBlk_same]))
      exact Evs.ret ⟨_, _, rfl, by simp, by simp⟩
  obtain ⟨r, hr, env, tr, rfl, e0, e1⟩ := main
  refine ⟨tr, ?_⟩
  rw [hr]
  simp [e0, e1, oneOrTuple]

theorem walk26 (h : Heap) (key nonce : Nat → BitVec 8) (xa xt : AV) (na nt : Nat) (a t : Nat → BitVec 8) (ha : Byt h xa na a) (ht : Byt h xt nt t) (hb : ¬ bigS na nt) :
    ∃ tr j, evBody (cx26 callS17) Try.f26 n26_0 [arr 32 key, arr 12 nonce, xa, xt] h = some (.tuple [.slice (h.length + j) 0 [] (.int .u8) 0 (nt + 16) (some (nt + 16)), nat 0], h ++ tr) ∧ tr[j]? = some ⟨arr (nt + 16) (sealF key nonce na a nt t), 0, .own⟩ := by
  have la := ha.len
  have lt := ht.len
  have h1 : ¬ 65536 < na := fun q => hb (.inl q)
  have h2 : ¬ 65536 < nt := fun q => hb (.inr q)
  have k45 : ∀ (b k : Nat → BitVec 8) (l : Heap), callS14 45 [arr 16 b, arr 32 k, arr 12 nonce, xa, xt] (h ++ l) = some (arr 16 (tagF b k nonce na a nt t), h ++ l) := fun b k l => callS14_45 b k nonce xa xt na nt a t (h ++ l) ⟨ha.app l, ht.app l, by omega, by omega⟩
  have k46 : ∀ (k T : Nat → BitVec 8) (l : Heap), callS17 46 [arr 32 k, arr 16 T, xt] (h ++ l) = some (.slice (h ++ l).length 0 [] (.int .u8) 0 nt (some (nt + 16)), h ++ l ++ [⟨arr (nt + 16) (turnF k T nt t), 0, .own⟩]) := fun k T l => callS17_46 k T xt nt t (h ++ l) ⟨ht.app l, by omega⟩
  rw [b26]
  have main : Evs (evC (cx26 callS17) n26_0 ⟨[(0, arr 32 key), (1, arr 12 nonce), (2, xa), (3, xt), (4, .junk), (5, .junk), (6, .junk), (7, .junk), (8, .junk), (9, .junk), (10, .junk), (11, .junk), (12, .junk), (20, .junk)], h⟩) (fun r => ∃ env tr j, r = (.ret, ⟨env, h ++ tr⟩) ∧ env.get 8 = .slice (h.length + j) 0 [] (.int .u8) 0 (nt + 16) (some (nt + 16)) ∧ env.get 9 = nat 0 ∧ tr[j]? = some ⟨arr (nt + 16) (sealF key nonce na a nt t), 0, .own⟩) := by
    obtain ⟨env, he⟩ : ∃ env : Env, env = [(0, arr 32 key), (1, arr 12 nonce), (2, xa), (3, xt), (4, .junk), (5, .junk), (6, .junk), (7, .junk), (8, .junk), (9, .junk), (10, .junk), (11, .junk), (12, .junk), (20, .junk)] := ⟨_, rfl⟩
    rw [← he]
    have g0 : env.get 0 = arr 32 key := by rw [he]; rfl
    have g1 : env.get 1 = arr 12 nonce := by rw [he]; rfl
    have g2 : env.get 2 = xa := by rw [he]; rfl
    have g3 : env.get 3 = xt := by rw [he]; rfl
    clear he
    repeat (first
      | (with_reducible refine Evs.assoc ?_)
      | ((with_reducible refine Evs.some_bnd ?_); try dsimp only [sqK_nrm, sqK_exit, sqK_ret])
      | ((with_reducible apply Evs.bcndT); (focus (simp (disch := omega) [g0, g1, g2, g3, la, lt, h1, h2, k45, k46] <;> omega)))
      | ((with_reducible apply Evs.bcndF); (focus (simp (disch := omega) [g0, g1, g2, g3, la, lt, h1, h2, k45, k46] <;> omega)))
      | ((with_reducible apply Evs.step); (focus ((conv => lhs; simp (disch := omega) [g0, g1, g2, g3, la, lt, h1, h2, k45, k46]); done)); try dsimp only)
      | (simp only [sn26, sqK_nrm, sqK_exit, sqK_ret, inBlk_nrm, inBlk_ret, inBlk_same]))
    refine Evs.ret ⟨_, _, 5, rfl, by simp, by simp, ?_⟩
    simp only [List.getElem?_cons_succ, List.getElem?_cons_zero]
    refine congrArg some (congrArg (fun v => Blk.mk v 0 .own) (arr_congr fun i hi => ?_))
    unfold sealF tagS
    by_cases hlt : i < nt
    · rw [if_neg (by omega), if_pos hlt]
    · rw [if_pos (by omega), if_neg hlt]
  obtain ⟨r, hr, env, tr, j, rfl, e0, e1, e2⟩ := main
  refine ⟨tr, j, ?_, e2⟩
  rw [hr]
  simp [e0, e1, oneOrTuple]

noncomputable def c26 := conC (fun x : (Nat → BitVec 8) × (Nat → BitVec 8) × (AV) × (AV) × (Nat) × (Nat) × (Nat → BitVec 8) × (Nat → BitVec 8) => [arr 32 x.1, arr 12 x.2.1, x.2.2.1, x.2.2.2.1]) (fun (x : (Nat → BitVec 8) × (Nat → BitVec 8) × (AV) × (AV) × (Nat) × (Nat) × (Nat → BitVec 8) × (Nat → BitVec 8)) h => Byt h x.2.2.1 x.2.2.2.2.1 x.2.2.2.2.2.2.1 ∧ Byt h x.2.2.2.1 x.2.2.2.2.2.1 x.2.2.2.2.2.2.2) (fun (x : (Nat → BitVec 8) × (Nat → BitVec 8) × (AV) × (AV) × (Nat) × (Nat) × (Nat → BitVec 8) × (Nat → BitVec 8)) h => (ansV (sealC x.2.2.2.2.1 x.2.2.2.2.2.1) h.length (x.2.2.2.2.2.1 + 16) (x.2.2.2.2.2.1 + 16), ansH (sealC x.2.2.2.2.1 x.2.2.2.2.2.1) h ⟨arr (x.2.2.2.2.2.1 + 16) (sealF x.1 x.2.1 x.2.2.2.2.1 x.2.2.2.2.2.2.1 x.2.2.2.2.2.1 x.2.2.2.2.2.2.2), 0, .own⟩))
noncomputable def callS18 : Calling := addC callS17 26 c26
theorem c26_eq (k : Nat → BitVec 8) (n : Nat → BitVec 8) (xa : AV) (xt : AV) (na : Nat) (nt : Nat) (a : Nat → BitVec 8) (t : Nat → BitVec 8) (h : Heap) (hc : Byt h xa na a ∧ Byt h xt nt t) : c26 [arr 32 k, arr 12 n, xa, xt] h = some (ansV (sealC na nt) h.length (nt + 16) (nt + 16), ansH (sealC na nt) h ⟨arr (nt + 16) (sealF k n na a nt t), 0, .own⟩) :=
  conC_eqP (enc := fun x : (Nat → BitVec 8) × (Nat → BitVec 8) × (AV) × (AV) × (Nat) × (Nat) × (Nat → BitVec 8) × (Nat → BitVec 8) => [arr 32 x.1, arr 12 x.2.1, x.2.2.1, x.2.2.2.1]) (P := fun (x : (Nat → BitVec 8) × (Nat → BitVec 8) × (AV) × (AV) × (Nat) × (Nat) × (Nat → BitVec 8) × (Nat → BitVec 8)) h => Byt h x.2.2.1 x.2.2.2.2.1 x.2.2.2.2.2.2.1 ∧ Byt h x.2.2.2.1 x.2.2.2.2.2.1 x.2.2.2.2.2.2.2) (a := (k, n, xa, xt, na, nt, a, t)) (f := fun (x : (Nat → BitVec 8) × (Nat → BitVec 8) × (AV) × (AV) × (Nat) × (Nat) × (Nat → BitVec 8) × (Nat → BitVec 8)) h => (ansV (sealC x.2.2.2.2.1 x.2.2.2.2.2.1) h.length (x.2.2.2.2.2.1 + 16) (x.2.2.2.2.2.1 + 16), ansH (sealC x.2.2.2.2.1 x.2.2.2.2.2.1) h ⟨arr (x.2.2.2.2.2.1 + 16) (sealF x.1 x.2.1 x.2.2.2.2.1 x.2.2.2.2.2.2.1 x.2.2.2.2.2.1 x.2.2.2.2.2.2.2), 0, .own⟩)) (fun x y h hp hq e => by
    have e1 := arr_inj.1 (List.cons.inj e).1
    have e2 := arr_inj.1 (List.cons.inj (List.cons.inj e).2).1
    have e4 := (List.cons.inj (List.cons.inj (List.cons.inj e).2).2).1
    have e5 := (List.cons.inj (List.cons.inj (List.cons.inj (List.cons.inj e).2).2).2).1
    rw [e4, e5] at hp
    obtain ⟨d1, d2⟩ := hp.1.det hq.1
    obtain ⟨d3, d4⟩ := hp.2.det hq.2
    rw [← d1, ← d3]
    rw [arr_congr (sealF_congr e1 e2 d2 d4)]
    ) hc
theorem callS18_ok : CallOK Try.prog callS18 := addC_con callS17_ok k26 fun x h hx => by
  by_cases hb : bigS x.2.2.2.2.1 x.2.2.2.2.2.1
  · obtain ⟨tr, hr⟩ := walk26b h x.1 x.2.1 _ _ _ _ _ _ hx.1 hx.2 hb
    have := (s26 callS17_ok hr).drop0 tr rfl
    show Spec _ 26 _ h (ansV (sealC _ _) _ _ _) (ansH (sealC _ _) _ _)
    rw [show sealC x.2.2.2.2.1 x.2.2.2.2.2.1 = 3 from if_pos hb]
    exact this
  · obtain ⟨tr, j, hr, hj⟩ := walk26 h x.1 x.2.1 _ _ _ _ _ _ hx.1 hx.2 hb
    have := (s26 callS17_ok hr).pullT tr j _ hj ⟨_, _, rfl⟩
    show Spec _ 26 _ h (ansV (sealC _ _) _ _ _) (ansH (sealC _ _) _ _)
    rw [show sealC x.2.2.2.2.1 x.2.2.2.2.2.1 = 0 from if_neg hb]
    exact this
@[simp] theorem callS18_ne {f : Nat} (args : List AV) (h : Heap) (hf : f ≠ 26) : callS18 f args h = callS17 f args h := addC_ne _ _ _ args h hf
@[simp] theorem callS18_sne {f : Nat} (args : List AV) (h : Heap) (hf : f ≠ 26) : still callS18 f args h = still callS17 f args h := still_ne _ _ _ args h hf
theorem callS18_26 (k : Nat → BitVec 8) (n : Nat → BitVec 8) (xa : AV) (xt : AV) (na : Nat) (nt : Nat) (a : Nat → BitVec 8) (t : Nat → BitVec 8) (h : Heap) (hc : Byt h xa na a ∧ Byt h xt nt t) : callS18 26 [arr 32 k, arr 12 n, xa, xt] h = some (ansV (sealC na nt) h.length (nt + 16) (nt + 16), ansH (sealC na nt) h ⟨arr (nt + 16) (sealF k n na a nt t), 0, .own⟩) := by
  unfold callS18; rw [addC_same]; exact c26_eq k n xa xt na nt a t h hc

end Go.Vab

/- How the evaluator reads the functions of a seat. Printed by wip/tools/gen.py (own work). -/
namespace Go.Vab
open Go Go.Proofs
/-! vestry/siv.Open -/
noncomputable def cx29 (call : Calling) : Ctx := ⟨call, TT, 54, [15, 16, 17, 18, 19, 20, 21, 23, 24, 25, 26, 28, 29, 30, 31, 32, 33, 34, 35, 36, 37, 38, 39, 40, 41, 42, 43, 44, 45, 46, 47, 48, 49, 50, 51, 53]⟩
noncomputable def n29_0 : Code := bodyOf Try.f29
noncomputable def n29_1 : Code := cR n29_0
noncomputable def n29_2 : Code := cL n29_1
noncomputable def n29_3 : Code := cR n29_2
noncomputable def n29_4 : Code := cL n29_3
noncomputable def n29_5 : Code := cR n29_4
noncomputable def n29_6 : Code := cR n29_3
noncomputable def n29_7 : Code := cR n29_1
noncomputable def n29_8 : Code := cR n29_7
noncomputable def n29_9 : Code := cL n29_8
noncomputable def n29_10 : Code := cR n29_9
noncomputable def n29_11 : Code := cL n29_10
noncomputable def n29_12 : Code := cR n29_11
noncomputable def n29_13 : Code := cR n29_10
noncomputable def n29_14 : Code := cR n29_8
noncomputable def n29_15 : Code := cR n29_14
noncomputable def n29_16 : Code := cR n29_15
noncomputable def n29_17 : Code := cR n29_16
noncomputable def n29_18 : Code := cL n29_17
noncomputable def n29_19 : Code := cR n29_18
noncomputable def n29_20 : Code := cL n29_19
noncomputable def n29_21 : Code := cR n29_20
noncomputable def n29_22 : Code := cR n29_19
noncomputable def n29_23 : Code := cR n29_17
noncomputable def n29_24 : Code := cR n29_23
@[simp] theorem n29_5_eq (call : Calling) (s : St) : evC (cx29 call) n29_5 s = some (.ret, s) := xE
@[simp] theorem n29_4_eq (call : Calling) (env : Env) (h : Heap) : evC (cx29 call) n29_4 ⟨env, h⟩ = ( evC (cx29 call) n29_5 ⟨(Env.put (Env.put env 8 .nilslice) 9 (nat 3)), h⟩) := (xSR 2 (cOps (cL n29_4)) (cR n29_4)).trans (by
  refine opsK_0 ?_
  refine oT 8 .nilslice ?_
  refine oT 9 (nat 3) ?_
  exact oE)
@[simp] theorem n29_6_eq (call : Calling) (s : St) : evC (cx29 call) n29_6 s = some (.nrm, s) := xK
@[simp] theorem n29_3_eq (call : Calling) (s : St) : evC (cx29 call) n29_3 s = cnd (s.env.get 22) (evC (cx29 call) n29_4 s) (evC (cx29 call) n29_6 s) := xC 22 _ _
@[simp] theorem n29_2_eq (call : Calling) (env : Env) (h : Heap) : evC (cx29 call) n29_2 ⟨env, h⟩ = (bnd (pureV h (mLenS (env.get 2))) fun r1 => bnd (pureV r1.2 (mBin .gtr r1.1 (nat 65536))) fun r2 => bnd (gdo r2.1 false (some ((env.get 3), r2.2)) r2.2) fun r4 => bnd (gdo r2.1 false (pureV r4.2 (mLenS r4.1)) r4.2) fun r5 => bnd (gdo r2.1 false (pureV r5.2 (mBin .gtr r5.1 (nat 65552))) r5.2) fun r6 => bnd (pureV r6.2 (mPick r2.1 (.bool true) r6.1)) fun r7 => evC (cx29 call) n29_3 ⟨(Env.put env 22 r7.1), r7.2⟩) := (xSR 1 (cOps (cL n29_2)) (cR n29_2)).trans (by
  refine opsK_0 ?_
  refine oT 15 (env.get 2) ?_
  refine oP 16 fun r1 => ?_
  refine oP 17 fun r2 => ?_
  refine oT 18 r2.1 ?_
  refine oP 19 fun r4 => ?_
  refine oP 20 fun r5 => ?_
  refine oP 21 fun r6 => ?_
  refine oP 22 fun r7 => ?_
  exact oE)
@[simp] theorem n29_12_eq (call : Calling) (s : St) : evC (cx29 call) n29_12 s = some (.ret, s) := xE
@[simp] theorem n29_11_eq (call : Calling) (env : Env) (h : Heap) : evC (cx29 call) n29_11 ⟨env, h⟩ = ( evC (cx29 call) n29_12 ⟨(Env.put (Env.put env 8 .nilslice) 9 (nat 4)), h⟩) := (xSR 5 (cOps (cL n29_11)) (cR n29_11)).trans (by
  refine opsK_0 ?_
  refine oT 8 .nilslice ?_
  refine oT 9 (nat 4) ?_
  exact oE)
@[simp] theorem n29_13_eq (call : Calling) (s : St) : evC (cx29 call) n29_13 s = some (.nrm, s) := xK
@[simp] theorem n29_10_eq (call : Calling) (s : St) : evC (cx29 call) n29_10 s = cnd (s.env.get 27) (evC (cx29 call) n29_11 s) (evC (cx29 call) n29_13 s) := xC 27 _ _
@[simp] theorem n29_9_eq (call : Calling) (env : Env) (h : Heap) : evC (cx29 call) n29_9 ⟨env, h⟩ = (bnd (pureV h (mBin .lss (env.get 10) (nat 0))) fun r1 => evC (cx29 call) n29_10 ⟨(Env.put env 27 r1.1), r1.2⟩) := (xSR 4 (cOps (cL n29_9)) (cR n29_9)).trans (by
  refine opsK_0 ?_
  refine oT 26 (env.get 10) ?_
  refine oP 27 fun r1 => ?_
  exact oE)
@[simp] theorem n29_21_eq (call : Calling) (s : St) : evC (cx29 call) n29_21 s = some (.ret, s) := xE
@[simp] theorem n29_20_eq (call : Calling) (env : Env) (h : Heap) : evC (cx29 call) n29_20 ⟨env, h⟩ = ( evC (cx29 call) n29_21 ⟨(Env.put (Env.put env 8 .nilslice) 9 (nat 90)), h⟩) := (xSR 10 (cOps (cL n29_20)) (cR n29_20)).trans (by
  refine opsK_0 ?_
  refine oT 8 .nilslice ?_
  refine oT 9 (nat 90) ?_
  exact oE)
@[simp] theorem n29_22_eq (call : Calling) (s : St) : evC (cx29 call) n29_22 s = some (.nrm, s) := xK
@[simp] theorem n29_19_eq (call : Calling) (s : St) : evC (cx29 call) n29_19 s = cnd (s.env.get 52) (evC (cx29 call) n29_20 s) (evC (cx29 call) n29_22 s) := xC 52 _ _
theorem n29_18_ok : drawOk (cOps (cL n29_18)).toList = true := by kernel_rfl
@[simp] theorem n29_18_eq (call : Calling) (env : Env) (h : Heap) : evC (cx29 call) n29_18 ⟨env, h⟩ = (bnd (pureV h (mLoad (.arr 16 (.int .u8)) (env.get 11) h)) fun r0 => bnd (pureV r0.2 (mLoad (.arr 32 (.int .u8)) (env.get 12) r0.2)) fun r1 => bnd (pureV r1.2 (mLoad (.arr 12 (.int .u8)) (env.get 5) r1.2)) fun r2 => bnd (still call 45 [r0.1, r1.1, r2.1, (env.get 2), (env.get 14)] r2.2) fun r5 => bnd (pureV r5.2 (mLoad (.arr 16 (.int .u8)) (env.get 13) r5.2)) fun r6 => bnd (pureV r6.2 (mEq (.arr 16 (.int .u8)) .neq r5.1 r6.1)) fun r7 => evC (cx29 call) n29_19 ⟨(Env.put env 52 r7.1), r7.2⟩) := (xSD 9 (cOps (cL n29_18)) (cR n29_18) n29_18_ok).trans (by
  refine opsK_0 ?_
  refine oP 45 fun r0 => ?_
  refine oP 46 fun r1 => ?_
  refine oP 47 fun r2 => ?_
  refine oT 48 (env.get 2) ?_
  refine oT 49 (env.get 14) ?_
  refine oP 50 fun r5 => ?_
  refine oP 51 fun r6 => ?_
  refine oP 52 fun r7 => ?_
  exact oE)
@[simp] theorem n29_24_eq (call : Calling) (s : St) : evC (cx29 call) n29_24 s = some (.ret, s) := xE
@[simp] theorem n29_23_eq (call : Calling) (env : Env) (h : Heap) : evC (cx29 call) n29_23 ⟨env, h⟩ = ( evC (cx29 call) n29_24 ⟨(Env.put (Env.put env 8 (env.get 14)) 9 (nat 0)), h⟩) := (xSR 11 (cOps (cL n29_23)) (cR n29_23)).trans (by
  refine opsK_0 ?_
  refine oT 53 (env.get 14) ?_
  refine oT 8 (env.get 14) ?_
  refine oT 9 (nat 0) ?_
  exact oE)
@[simp] theorem n29_17_eq (call : Calling) (s : St) : evC (cx29 call) n29_17 s = bnd (evC (cx29 call) n29_18 s) (sqK (evC (cx29 call) n29_23)) := xS _ _
theorem n29_16_ok : loud (cOps (cL n29_16)).toList = true := by kernel_rfl
@[simp] theorem n29_16_eq (call : Calling) (env : Env) (h : Heap) : evC (cx29 call) n29_16 ⟨env, h⟩ = (bnd (pureV h (mLoad (.arr 32 (.int .u8)) (env.get 12) h)) fun r0 => bnd (pureV r0.2 (mLoad (.arr 16 (.int .u8)) (env.get 13) r0.2)) fun r1 => bnd (pureV r1.2 (mSliceS (.int .u8) (env.get 3) none (some (env.get 10)) none)) fun r4 => bnd (call 46 [r0.1, r1.1, r4.1] r4.2) fun r5 => evC (cx29 call) n29_17 ⟨(Env.put env 14 r5.1), r5.2⟩) := (xSDL 8 (cOps (cL n29_16)) (cR n29_16) n29_16_ok).trans (by
  refine opsK_0 ?_
  refine oP 39 fun r0 => ?_
  refine oP 40 fun r1 => ?_
  refine oT 41 (env.get 3) ?_
  refine oT 42 (env.get 10) ?_
  refine oP 43 fun r4 => ?_
  refine oP 44 fun r5 => ?_
  refine oT 14 r5.1 ?_
  exact oE)
@[simp] theorem n29_15_eq (call : Calling) (env : Env) (h : Heap) : evC (cx29 call) n29_15 ⟨env, h⟩ = (bnd (pureV h (mSliceS (.int .u8) (env.get 3) (some (env.get 10)) none none)) fun r2 => bnd (pureV r2.2 (mArrayAt 16 (.int .u8) r2.1)) fun r3 => bnd (pureV r3.2 (mLoad (.arr 16 (.int .u8)) r3.1 r3.2)) fun r4 => bnd (mNew (.arr 16 (.int .u8)) (arr 16 fun _ => 0#8) r4.2) fun r5 => bnd (stU (.arr 16 (.int .u8)) r5.1 r4.1 r5.2) fun r6 => evC (cx29 call) n29_16 ⟨(Env.put env 13 r5.1), r6.2⟩) := (xSR 7 (cOps (cL n29_15)) (cR n29_15)).trans (by
  refine opsK_0 ?_
  refine oT 34 (env.get 3) ?_
  refine oT 35 (env.get 10) ?_
  refine oP 36 fun r2 => ?_
  refine oP 37 fun r3 => ?_
  refine oP 38 fun r4 => ?_
  refine oP 13 fun r5 => ?_
  refine oN fun r6 => ?_
  exact oE)
@[simp] theorem n29_14_eq (call : Calling) (env : Env) (h : Heap) : evC (cx29 call) n29_14 ⟨env, h⟩ = (bnd (pureV h (mLoad (.arr 32 (.int .u8)) (env.get 4) h)) fun r0 => bnd (pureV r0.2 (mLoad (.arr 12 (.int .u8)) (env.get 5) r0.2)) fun r1 => bnd (call 34 [r0.1, r1.1] r1.2) fun r2 => bnd (pureV r2.2 (mExtract r2.1 0)) fun r4 => bnd (pureV r4.2 (mExtract r2.1 1)) fun r5 => bnd (mNew (.arr 16 (.int .u8)) (arr 16 fun _ => 0#8) r5.2) fun r6 => bnd (mNew (.arr 32 (.int .u8)) (arr 32 fun _ => 0#8) r6.2) fun r7 => bnd (stU (.arr 16 (.int .u8)) r6.1 r4.1 r7.2) fun r8 => bnd (stU (.arr 32 (.int .u8)) r7.1 r5.1 r8.2) fun r9 => evC (cx29 call) n29_15 ⟨(Env.put (Env.put env 11 r6.1) 12 r7.1), r9.2⟩) := (xSR 6 (cOps (cL n29_14)) (cR n29_14)).trans (by
  refine opsK_0 ?_
  refine oP 29 fun r0 => ?_
  refine oP 30 fun r1 => ?_
  refine oP 31 fun r2 => ?_
  refine oT 28 r2.1 ?_
  refine oP 32 fun r4 => ?_
  refine oP 33 fun r5 => ?_
  refine oP 11 fun r6 => ?_
  refine oP 12 fun r7 => ?_
  refine oN fun r8 => ?_
  refine oN fun r9 => ?_
  exact oE)
@[simp] theorem n29_8_eq (call : Calling) (s : St) : evC (cx29 call) n29_8 s = bnd (evC (cx29 call) n29_9 s) (sqK (evC (cx29 call) n29_14)) := xS _ _
@[simp] theorem n29_7_eq (call : Calling) (env : Env) (h : Heap) : evC (cx29 call) n29_7 ⟨env, h⟩ = (bnd (pureV h (mLenS (env.get 3))) fun r1 => bnd (pureV r1.2 (mBin .sub r1.1 (nat 16))) fun r2 => evC (cx29 call) n29_8 ⟨(Env.put env 10 r2.1), r2.2⟩) := (xSR 3 (cOps (cL n29_7)) (cR n29_7)).trans (by
  refine opsK_0 ?_
  refine oT 23 (env.get 3) ?_
  refine oP 24 fun r1 => ?_
  refine oP 25 fun r2 => ?_
  refine oT 10 r2.1 ?_
  exact oE)
@[simp] theorem n29_1_eq (call : Calling) (s : St) : evC (cx29 call) n29_1 s = bnd (evC (cx29 call) n29_2 s) (sqK (evC (cx29 call) n29_7)) := xS _ _
@[simp] theorem n29_0_eq (call : Calling) (env : Env) (h : Heap) : evC (cx29 call) n29_0 ⟨env, h⟩ = (bnd (mNew (.arr 32 (.int .u8)) (env.get 0) h) fun r0 => bnd (mNew (.arr 12 (.int .u8)) (env.get 1) r0.2) fun r1 => evC (cx29 call) n29_1 ⟨(Env.put (Env.put (Env.put (Env.put env 4 r0.1) 5 r1.1) 8 .nilslice) 9 (nat 0)), r1.2⟩) := (xSR 0 (cOps (cL n29_0)) (cR n29_0)).trans (by
  refine opsK_0 ?_
  refine oP 4 fun r0 => ?_
  refine oP 5 fun r1 => ?_
  refine oT 8 .nilslice ?_
  refine oT 9 (nat 0) ?_
  exact oE)
theorem b29 (call : Calling) (a0 a1 a2 a3 : AV) (h : Heap) : evBody (cx29 call) Try.f29 n29_0 [a0, a1, a2, a3] h = bnd (evC (cx29 call) n29_0 ⟨[(0, a0), (1, a1), (2, a2), (3, a3), (4, .junk), (5, .junk), (6, .junk), (7, .junk), (8, .junk), (9, .junk), (10, .junk), (11, .junk), (12, .junk), (13, .junk), (14, .junk), (22, .junk), (27, .junk), (52, .junk)], h⟩) (retK fun s => bnd (bnd (some (s.env.get 8)) fun v => bnd (bnd (some (s.env.get 9)) fun v => bnd (some []) fun vs => some (v :: vs)) fun vs => some (v :: vs)) fun vs => some (oneOrTuple vs)) := by kernel_rfl
theorem fn29 : Try.prog.funcs[29]? = some Try.f29 := by kernel_rfl
theorem k29 : Callable Try.prog 29 := ⟨Try.f29, fn29, by kernel_rfl, by kernel_rfl⟩
theorem s29 {call : Calling} (hc : CallOK Try.prog call) {args : List AV} {h h' : Heap} {v : AV} (he : evBody (cx29 call) Try.f29 n29_0 args h = some (v, h')) : Spec Try.prog 29 args h v h' := body_sound (C := cx29 call) TT_ok hc mixed_ok fn29 (by kernel_rfl) (by kernel_rfl) he
def sn29 := And.intro n29_5_eq (And.intro n29_4_eq (And.intro n29_6_eq (And.intro n29_3_eq (And.intro n29_2_eq (And.intro n29_12_eq (And.intro n29_11_eq (And.intro n29_13_eq (And.intro n29_10_eq (And.intro n29_9_eq (And.intro n29_21_eq (And.intro n29_20_eq (And.intro n29_22_eq (And.intro n29_19_eq (And.intro n29_18_eq (And.intro n29_24_eq (And.intro n29_23_eq (And.intro n29_17_eq (And.intro n29_16_eq (And.intro n29_15_eq (And.intro n29_14_eq (And.intro n29_8_eq (And.intro n29_7_eq (And.intro n29_1_eq (n29_0_eq))))))))))))))))))))))))
end Go.Vab
