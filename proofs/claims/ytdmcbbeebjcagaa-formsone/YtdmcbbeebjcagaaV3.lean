/-
  Less is told; memory that nobody looks at any more is let go of.
-/
import Derived.Test.YtdmcbbeebjcagaaV2
import Derived.Test.YtdmcbbeebjcagaaV1
import Derived.SizedLaws
import Derived.Test.YtdmcbbeebjcagaaProg
set_option linter.all false
set_option linter.unusedSectionVars false
namespace Go.Vab
open Go

theorem AnyW_mono {P : Program} {C : Ctx} {ops : Array Oper} {q q' : (Nat → AV) → Heap → Prop} (hq : ∀ σ h, q σ h → q' σ h) : ∀ (n : Nat) (listed : Array Bool) (σ : Nat → AV) (h : Heap), AnyW P C ops q n listed σ h → AnyW P C ops q' n listed σ h
  | 0, _, _, _, h => ⟨h.1, hq _ _ h.2⟩
  | n + 1, _, _, _, h => ⟨fun h0 => hq _ _ (h.1 h0), fun i hi o ho => oneW_mono _ _ (fun _ hr => ⟨hr.1, AnyW_mono hq n _ _ _ hr.2⟩) (h.2 i hi o ho)⟩

theorem wC_mono {P : Program} {C : Ctx} : ∀ (c : Code) {Q Q' : Ex × St → Prop} {s : St}, (∀ r, Q r → Q' r) → wC P C c Q s → wC P C c Q' s
  | .skip, _, _, _, hQ, h => hQ _ h
  | .exit _, _, _, _, hQ, h => hQ _ h
  | .ret, _, _, _, hQ, h => hQ _ h
  | .region _ _ false, _, _, _, hQ, h => opsW_mono (fun _ _ hk => hQ _ hk) _ _ _ _ h
  | .region _ _ true, _, _, _, hQ, h => fun hv => AnyW_mono (fun _ _ ⟨e, h1, h2⟩ => ⟨e, hQ _ h1, h2⟩) _ _ _ _ (h hv)
  | .seq x y, Q, Q', s, hQ, h => by
    simp only [wC] at h ⊢
    refine wC_mono x (fun r hr => ?_) h
    obtain ⟨ex, s'⟩ := r
    cases ex with
    | nrm => exact wC_mono y hQ hr
    | exit id => exact hQ _ hr
    | ret => exact hQ _ hr
  | .cond c x y, Q, Q', s, hQ, h => by
    simp only [wC] at h ⊢
    unfold cndW at h ⊢
    split at h
    · split at h
      · rename_i hb; simp only [hb, if_true]; exact wC_mono x hQ h
      · rename_i hb; simp only [hb]; exact wC_mono y hQ h
    · cases h
  | .block id c, Q, Q', s, hQ, h => by
    simp only [wC] at h ⊢
    exact wC_mono c (fun r hr => hQ _ hr) h
  | .loop c, Q, Q', s, hQ, h => by
    obtain ⟨I, n, h0, step⟩ := h
    exact ⟨I, n, h0, fun m s hs => wC_mono c (fun r hr => hr.imp id fun ⟨a, b⟩ => ⟨a, hQ _ b⟩) (step m s hs)⟩
  | .rangeFunc .., _, _, _, _, h => h.elim
  | .scope _, _, _, _, _, h => h.elim
  | .label _, _, _, _, _, h => h.elim
  | .goto _, _, _, _, _, h => h.elim
  | .refuse _, _, _, _, _, h => h.elim

/-- A loop that counts up to N, and may be left ahead of its end. -/
theorem loop_up {P : Program} {C : Ctx} {c : Code} {Q : Ex × St → Prop} (N : Nat) (I : Nat → St → Prop) (step : ∀ i s, i < N → I i s → wC P C c (fun r => (r.1 = .nrm ∧ I (i + 1) r.2) ∨ (r.1 ≠ .nrm ∧ Q r)) s)
    (last : ∀ s, I N s → wC P C c (fun r => r.1 ≠ .nrm ∧ Q r) s) {s : St} (h0 : I 0 s) : loopW (wC P C c) Q s :=
  loopW_up (g := wC P C c) (fun _ _ _ hq h => wC_mono c hq h) N I step last h0

/-- What a call leaves beyond the old blocks may be forgotten. -/
theorem SpecQ.drop {P : Program} {f : Nat} {args : List AV} {h : Heap} {K : AV × Heap → Prop} (hs : SpecQ P f args h K) (K' : AV × Heap → Prop)
    (hK : ∀ r, K r → ∃ h1 t, r.2 = h1 ++ t ∧ h1.length = h.length ∧ (∀ (i : Nat) (b : Blk), h1[i]? = some b → (∃ c : Blk, h[i]? = some c ∧ c.v = b.v) ∨ b.v.under h.length = true) ∧ r.1.under h.length = true ∧ K' (r.1, h1)) : SpecQ P f args h K' := by
  intro E w xs R hxs
  rcases hs E w xs R hxs with ⟨h1, h2⟩ | ⟨x, w', r, E', h1, h2, h3, h4⟩
  · refine .inl ⟨h1, h2.mono fun e w' hp => ?_⟩
    obtain ⟨r, E', x, g1, rfl, g2, g3⟩ := hp
    obtain ⟨h1, t, e, hl, hb, hv, hk⟩ := hK r g1
    rw [e] at g3
    exact ⟨(r.1, h1), E'.cut h.length, x, hk, rfl, VRel.cut _ _ hv g2, g3.cut R hl hb⟩
  · obtain ⟨h1', t, e, hl, hb, hv, hk⟩ := hK r h2
    rw [e] at h4
    exact .inr ⟨x, w', (r.1, h1'), E'.cut h.length, h1, hk, VRel.cut _ _ hv h3, h4.cut R hl hb⟩

/-- The memory is as it was, and what is answered points nowhere new. -/
theorem SpecQ.drop0 {P : Program} {f : Nat} {args : List AV} {h : Heap} {K : AV × Heap → Prop} (hs : SpecQ P f args h fun r => (∃ t, r.2 = h ++ t) ∧ r.1.under h.length = true ∧ K (r.1, h)) : SpecQ P f args h fun r => r.2 = h ∧ K r :=
  hs.drop _ fun r ⟨⟨t, e⟩, hv, hk⟩ => ⟨h, t, e, rfl, fun i b hb => .inl ⟨b, hb, rfl⟩, hv, rfl, hk⟩
theorem SpecQ.drop1 {P : Program} {f : Nat} {args : List AV} {h : Heap} {v : AV} (hv : v.under h.length = true) (hs : SpecQ P f args h fun r => ∃ t, r = (v, h ++ t)) : SpecQ P f args h fun r => r = (v, h) :=
  hs.drop _ fun r ⟨t, e⟩ => ⟨h, t, by rw [e], rfl, fun i b hb => .inl ⟨b, hb, rfl⟩, by rw [e]; exact hv, by rw [e]⟩

/-! what is handed over, made plain -/
/-- As it is printed: what is handed over is not yet plain. -/
def SpecA (P : Program) (g : Nat) (args : List AV) (h : Heap) (K : AV × Heap → Prop) : Prop := SpecQ P g args h K
def fnA (P : Program) (f : AV) (args : List AV) (h : Heap) (K : AV × Heap → Prop) : Prop := fnW P f args h K
def appA (t : Ty) (bytes : Nat) (zero s x : AV) (h : Heap) (K : AV × Heap → Prop) : Prop := appW t bytes zero s x h K
theorem SpecA_i {P : Program} {g : Nat} {args args' : List AV} {h : Heap} {K : AV × Heap → Prop} (e : args = args') (hs : SpecQ P g args' h K) : SpecA P g args h K := e ▸ hs
theorem ValA_i {P : Program} {g : Nat} {args args' : List AV} {h h0 : Heap} {Y : AV → Prop} (e : args = args') (hs : ValW (SpecQ P g args' h) h0 Y) : ValW (SpecA P g args h) h0 Y := e ▸ hs
theorem stabA_i {P : Program} {g : Nat} {args args' : List AV} {h : Heap} {K : AV × Heap → Prop} {rest : Prop} (e : args = args') (hs : stabP (SpecQ P g args' h K) rest) : stabP (SpecA P g args h K) rest := e ▸ hs
theorem stab_do {y : AV} {want : Bool} {X : (AV × Heap → Prop) → Prop} {h : Heap} {K : AV × Heap → Prop} {rest : Prop} (e : y = .bool want) (hs : stabP (X K) rest) : stabP (gW y want X h K) rest := ⟨gW_do e hs.1, hs.2⟩
theorem appA_i {t : Ty} {bytes : Nat} {zero s s' x x' : AV} {h : Heap} {K : AV × Heap → Prop} (e : s = s') (e' : x = x') (hs : appW t bytes zero s' x' h K) : appA t bytes zero s x h K := e ▸ e' ▸ hs
theorem ValW_do {y : AV} {want : Bool} {X : (AV × Heap → Prop) → Prop} {h : Heap} {Y : AV → Prop} (e : y = .bool want) (hs : ValW X h Y) : ValW (gW y want X h) h Y := by
  obtain ⟨v, h1, h2⟩ := hs
  exact ⟨v, gW_do e h1, h2⟩
theorem ValW_no {y : AV} {want : Bool} {X : (AV × Heap → Prop) → Prop} {h : Heap} {Y : AV → Prop} (e : y = .bool (!want)) (hs : Y .undef) : ValW (gW y want X h) h Y := ⟨.undef, gW_no e rfl, hs⟩
theorem ValW_un {y : AV} {want : Bool} {X : (AV × Heap → Prop) → Prop} {h : Heap} {Y : AV → Prop} (e : y = .undef) (hs : Y .undef) : ValW (gW y want X h) h Y := ⟨.undef, gW_un e rfl, hs⟩
theorem fnA_i {P : Program} {f : AV} {g : Nat} {caps args : List AV} {h : Heap} {K : AV × Heap → Prop} (e : f = .fn g caps) (hs : SpecA P g (args ++ caps) h K) : fnA P f args h K := by subst e; exact hs
theorem ValA_fn {P : Program} {f : AV} {g : Nat} {caps args : List AV} {h h0 : Heap} {Y : AV → Prop} (e : f = .fn g caps) (hs : ValW (SpecA P g (args ++ caps) h) h0 Y) : ValW (fnA P f args h) h0 Y := by subst e; exact hs
theorem stabA_fn {P : Program} {f : AV} {g : Nat} {caps args : List AV} {h : Heap} {K : AV × Heap → Prop} {rest : Prop} (e : f = .fn g caps) (hs : stabP (SpecA P g (args ++ caps) h K) rest) : stabP (fnA P f args h K) rest := by subst e; exact hs

/-! a symbolic guard: both ways -/
theorem gv_split {b want : Bool} {X : Option AV} {K : AV → Prop} (h1 : b = want → Evs X K) (h2 : b = (!want) → K .undef) : Evs (gv (.bool b) want X) K := by
  rw [gv_bool]
  split
  · exact h1 (by assumption)
  · rename_i h; rw [evs_some]; exact h2 (by cases b <;> cases want <;> simp_all)
theorem gW_split {b want : Bool} {X : (AV × Heap → Prop) → Prop} {h : Heap} {K : AV × Heap → Prop} (h1 : b = want → X K) (h2 : b = (!want) → K (.undef, h)) : gW (.bool b) want X h K := by
  rw [gW_bool]
  split
  · exact h1 (by assumption)
  · rename_i h; exact h2 (by cases b <;> cases want <;> simp_all)
theorem cndW_split {b : Bool} {x y : Prop} (h1 : b = true → x) (h2 : b = false → y) : cndW (.bool b) x y := by
  rw [cndW_bool]
  cases b
  · exact h2 rfl
  · exact h1 rfl
theorem cndW_splitE {v : AV} {b : Bool} {x y : Prop} (h : v = .bool b) (h1 : b = true → x) (h2 : b = false → y) : cndW v x y := by subst h; exact cndW_split h1 h2
theorem ValW_split {b want : Bool} {F : (AV × Heap → Prop) → Prop} {h : Heap} {Y : AV → Prop} (h1 : b = want → ValW F h Y) (h2 : b = (!want) → Y .undef) : ValW (gW (.bool b) want F h) h Y := by
  by_cases hb : b = want
  · obtain ⟨v, g1, g2⟩ := h1 hb
    exact ⟨v, by rw [gW_bool, if_pos hb]; exact g1, g2⟩
  · exact ⟨.undef, by rw [gW_bool, if_neg hb], h2 (by cases b <;> cases want <;> simp_all)⟩

/-! numbers of 32 bits -/
def u32 (x : BitVec 32) : AV := .int .u32 (x.toNat : Int)
theorem u32_inj {a b : BitVec 32} : u32 a = u32 b ↔ a = b := by
  constructor
  · intro h
    simp only [u32, AV.int.injEq, true_and] at h
    exact BitVec.eq_of_toNat_eq (by omega)
  · rintro rfl; rfl
section
variable (x y : BitVec 32)
@[simp] theorem hasTy_u32 : hasTy (u32 x) (.int .u32) = true := by simp [hasTy, u32]
@[simp] theorem u32_eql : mBin .eql (u32 x) (u32 y) = some (.bool (decide (x = y))) := by
  simp only [mBin, mBinI, u32, if_true]
  congr 2
  by_cases h : x = y
  · subst h; simp
  · have : ¬ ((x.toNat : Int) = (y.toNat : Int)) := fun e => h (BitVec.eq_of_toNat_eq (by omega))
    simp [h, this]
@[simp] theorem u32_neq : mBin .neq (u32 x) (u32 y) = some (.bool (decide (x ≠ y))) := by
  simp only [mBin, mBinI, u32, if_true]
  congr 2
  by_cases h : x = y
  · subst h; simp
  · have : ¬ ((x.toNat : Int) = (y.toNat : Int)) := fun e => h (BitVec.eq_of_toNat_eq (by omega))
    simp [h, this]
@[simp] theorem u32_add : mBin .add (u32 x) (u32 y) = some (u32 (x + y)) := by
  simp only [mBin, mBinI, u32, if_true]
  congr 2
@[simp] theorem u32_sub : mBin .sub (u32 x) (u32 y) = some (u32 (x - y)) := by
  simp only [mBin, mBinI, u32, if_true]
  congr 2
  unfold IntKind.wrap
  simp [IntKind.bits, IntKind.signed, BitVec.toNat_sub]
  have := x.isLt
  have := y.isLt
  omega
@[simp] theorem u32_gtr : mBin .gtr (u32 x) (u32 y) = some (.bool (decide (y < x))) := by
  simp only [mBin, mBinI, u32, if_true]
  congr 2
  simp [BitVec.lt_def]
@[simp] theorem u32_u64 : mConv .u64 (u32 x) = some (u64 (x.setWidth 64)) := by
  simp only [mConv, u32, u64]
  congr 2
  unfold IntKind.wrap
  have := x.isLt
  simp [IntKind.bits, IntKind.signed]
@[simp] theorem eqv_u32 : eqv (u32 x) (u32 y) = some (decide (x = y)) := by
  simp only [eqv, u32, if_true]
  congr 1
  by_cases h : x = y
  · subst h; simp
  · have : ¬ ((x.toNat : Int) = (y.toNat : Int)) := fun e => h (BitVec.eq_of_toNat_eq (by omega))
    simp [h, this]
end

end Go.Vab

/-
  The reading of the arguments again, with the form's own reach beside each slice.
-/
namespace Go.Vas
open Go Go.Vab

/-- What a value of a type may be that was read. -/
def Rd (P : Program) (tt : Nat → Option TI) (h : Heap) : Nat → TypeId → AV → Prop
  | 0, _, _ => False
  | n + 1, t, v => match P.underlying t with
    | some .bool => ∃ b, v = .bool b
    | some (.int k) => ∃ x, v = .int k x ∧ (Lit.int k x).wf = true
    | some .string => ∃ s, v = .str s ∧ s.size ≤ maxLen
    | some (.slice e) => v = .nilslice ∨ ∃ i el row, ∃ m : {m : Vab.Mode // m ≠ Vab.Mode.mp}, ∃ len cap, v = .slice i 0 [] el.ty 0 len (some cap) ∧ tt e = some el ∧ h[i]? = some ⟨row, 0, m.1⟩ ∧ hasTy row (.arr cap el.ty) = true ∧ len ≤ cap ∧ cap ≤ maxLen ∧ len * P.bytesOf e ≤ reachBytes ∧
        ∀ j, j < cap → ∃ x, row.get [j] = some x ∧ Rd P tt h n e x
    | some (.struct fs) => ∃ vs, v = .node vs ∧ ∀ (f : Nat) x, fs[f]? = some x → ∃ y, vs[f]? = some y ∧ Rd P tt h n x.type y
    | some (.array m e) => ∀ j, j < m → ∃ x, v.get [j] = some x ∧ Rd P tt h n e x
    | _ => False

theorem Rd.app {P : Program} {tt : Nat → Option TI} {h : Heap} (l : Heap) : ∀ (n : Nat) (t : TypeId) (v : AV), Rd P tt h n t v → Rd P tt (h ++ l) n t v
  | 0, _, _, hr => hr
  | n + 1, t, v, hr => by
    unfold Rd at hr ⊢
    split at hr
    · exact hr
    · exact hr
    · exact hr
    · rcases hr with hr | ⟨i, el, row, m, len, cap, h1, h2, h3, h4, h5, h6, hw, h7⟩
      · exact .inl hr
      · exact .inr ⟨i, el, row, m, len, cap, h1, h2, by rw [List.getElem?_append_left (List.getElem?_eq_some_iff.1 h3).1]; exact h3, h4, h5, h6, hw, fun j hj => let ⟨x, hx, hy⟩ := h7 j hj; ⟨x, hx, Rd.app l n _ _ hy⟩⟩
    · obtain ⟨vs, h1, h2⟩ := hr
      exact ⟨vs, h1, fun f x hx => let ⟨y, hy, hz⟩ := h2 f x hx; ⟨y, hy, Rd.app l n _ _ hz⟩⟩
    · intro j hj
      obtain ⟨x, hx, hy⟩ := hr j hj
      exact ⟨x, hx, Rd.app l n _ _ hy⟩
    · exact hr


section
variable {H : Type} {enc : TypeId × Value → H} {P : Program} {tt : Nat → Option TI} {ok : List TypeId} {w : World}

theorem mem_weightsAll {e : TypeId} {d : DataW H} : ∀ {l : List (DataW H)}, d ∈ l → ∀ {m : Nat}, m ∈ DataW.weights P e d → m ∈ DataW.weightsAll P e l
  | x :: l, hd, m, hm => by
    simp only [DataW.weightsAll, List.mem_append]
    rcases List.mem_cons.1 hd with rfl | h
    · exact .inl hm
    · exact .inr (mem_weightsAll h hm)
theorem mem_weightsEach {d : DataW H} {t : TypeId} : ∀ {ts : List TypeId} {l : List (DataW H)} {i : Nat}, ts[i]? = some t → l[i]? = some d → ∀ {m : Nat}, m ∈ DataW.weights P t d → m ∈ DataW.weightsEach P ts l
  | t' :: ts, x :: l, 0, ht, hd, m, hm => by
    simp at ht hd
    subst ht hd
    simp only [DataW.weightsEach, List.mem_append]
    exact .inl hm
  | t' :: ts, x :: l, i + 1, ht, hd, m, hm => by
    simp only [DataW.weightsEach, List.mem_append]
    exact .inr (mem_weightsEach (i := i) (by simpa using ht) (by simpa using hd) hm)
  | [], _, _, ht, _, _, _ => by simp at ht
  | _ :: _, [], _, _, hd, _, _ => by simp at hd

/-- What was read of a cell row is an abstract value, over some more memory that is only read. -/
def Read (P : Program) (tt : Nat → Option TI) (w : World) (n : Nat) (t : TypeId) (cs : List Value) : Prop :=
  ∀ E h, RelHeap E h w → NoOwn E h → ∀ i, tt t = some i → ∃ E' l v, RelHeap E' (h ++ l) w ∧ NoOwn E' (h ++ l) ∧ Ext E E' ∧ VRl E' v cs ∧ hasTy v i.ty = true ∧ Rd P tt (h ++ l) n t v

/-- Several of them, one behind the other. -/
theorem Read.list {n : Nat} : ∀ (items : List (TypeId × List Value)), (∀ x ∈ items, Read P tt w n x.1 x.2) → (∀ x ∈ items, ∃ i, tt x.1 = some i) →
    ∀ E h, RelHeap E h w → NoOwn E h → ∃ E' l vs, RelHeap E' (h ++ l) w ∧ NoOwn E' (h ++ l) ∧ Ext E E' ∧ VRs E' vs (items.flatMap (·.2)) ∧ vs.length = items.length ∧
      ∀ (j : Nat) x, items[j]? = some x → ∃ v i, vs[j]? = some v ∧ tt x.1 = some i ∧ hasTy v i.ty = true ∧ VRl E' v x.2 ∧ Rd P tt (h ++ l) n x.1 v
  | [], _, _, E, h, R, N => ⟨E, [], [], by simpa using R, by simpa using N, Ext.refl E, by simp [VRs], rfl, fun j x hx => by simp at hx⟩
  | x :: items, hr, ht, E, h, R, N => by
    obtain ⟨i, hi⟩ := ht x (List.mem_cons_self ..)
    obtain ⟨E1, l1, v, R1, N1, X1, V1, T1, D1⟩ := hr x (List.mem_cons_self ..) E h R N i hi
    obtain ⟨E2, l2, vs, R2, N2, X2, V2, L2, D2⟩ := Read.list items (fun y hy => hr y (List.mem_cons_of_mem _ hy)) (fun y hy => ht y (List.mem_cons_of_mem _ hy)) E1 (h ++ l1) R1 N1
    refine ⟨E2, l1 ++ l2, v :: vs, by rw [← List.append_assoc]; exact R2, by rw [← List.append_assoc]; exact N2, X1.trans X2, ?_, by simp [L2], fun j y hy => ?_⟩
    · rw [List.flatMap_cons]; exact VRs.cons (VRl.mono X2 _ _ V1) V2
    · rw [← List.append_assoc]
      cases j with
      | zero =>
        simp at hy; subst hy
        exact ⟨v, i, rfl, hi, T1, VRl.mono X2 _ _ V1, Rd.app l2 _ _ _ D1⟩
      | succ j =>
        simp only [List.getElem?_cons_succ] at hy ⊢
        exact D2 j y hy

theorem read_ok (T : TTok P tt) (hok : plainB P tt ok = true) : ∀ (n : Nat) (t : TypeId) (cs : List Value) (x : DataW H × List MemPlace), ok.contains t = true →
    DataW.trod enc P w 0 (fun _ => true) true n t cs = some x → (∀ m ∈ DataW.weights P t x.1, m ≤ reachBytes) → Read P tt w n t cs
  | 0, t, cs, x, _, h, _ => by simp [DataW.trod] at h
  | n + 1, t, cs, x, hm, h, hwt => by
    intro E hp R N i hi
    have hok2 := hok
    simp only [plainB, Bool.and_eq_true, List.all_eq_true] at hok
    have hb := hok.1 t (by simpa using hm)
    unfold plainTypeB at hb
    rw [hi] at hb
    have keep : ∀ v : AV, VRl E v cs → hasTy v i.ty = true → Rd P tt (hp ++ []) (n + 1) t v → ∃ E' l v, RelHeap E' (hp ++ l) w ∧ NoOwn E' (hp ++ l) ∧ Ext E E' ∧ VRl E' v cs ∧ hasTy v i.ty = true ∧ Rd P tt (hp ++ l) (n + 1) t v :=
      fun v h1 h2 h3 => ⟨E, [], v, by simpa using R, by simpa using N, Ext.refl E, h1, h2, h3⟩
    cases hu : P.underlying t with
    | none => rw [hu] at hb; simp at hb
    | some d =>
      rw [hu] at hb
      cases d <;> try (simp only [Bool.false_eq_true] at hb; done)
      case bool =>
        obtain ⟨b, rfl, _⟩ := DataW.trod_bool hu h
        have hty := Ty.beq_eq _ _ hb
        exact keep (.bool b) (by simp only [VRl]) (by rw [hty]; rfl) (by simp only [Rd, hu]; exact ⟨_, rfl⟩)
      case string =>
        obtain ⟨b, rfl, _, hm⟩ := DataW.trod_string hu h
        have hty := Ty.beq_eq _ _ hb
        exact keep (.str b) (by simp only [VRl]) (by rw [hty]; rfl) (by simp only [Rd, hu]; exact ⟨_, rfl, hm⟩)
      case int k =>
        obtain ⟨b, rfl, _, hm⟩ := DataW.trod_int hu h
        have hty := Ty.beq_eq _ _ hb
        exact keep (.int k b) (by simp only [VRl]) (by rw [hty]; simp [hasTy]) (by simp only [Rd, hu]; exact ⟨_, rfl, hm⟩)
      case slice e =>
        simp only [Bool.and_eq_true] at hb
        obtain ⟨⟨hty, he⟩, hoe⟩ := hb
        have hty := Ty.beq_eq _ _ hty
        cases hel : tt e with
        | none => rw [hel] at he; cases he
        | some el =>
          rw [hel] at he
          simp only [Bool.and_eq_true, decide_eq_true_eq] at he
          obtain ⟨hsz, hcz⟩ := he
          rcases DataW.trod_slice hu h with ⟨rfl, _⟩ | ⟨a, len, cap, elems, rest, n', hn, rfl, rfl, _, hl, hmx, hlen, hel1, hel2, _⟩
          · exact keep .nilslice (by simp only [VRl]) (by rw [hty]; rfl) (by simp only [Rd, hu]; exact .inl trivial)
          · have hn' : n = n' := by omega
            subst hn'
            have hw0 : ((elems.map (·.1)).length + (rest.map (·.1)).length) * P.bytesOf e ≤ reachBytes := hwt _ (by simp [DataW.weights, hu])
            have hw1 : len * P.bytesOf e ≤ reachBytes := Nat.le_trans (Nat.mul_le_mul_right _ (by simp only [List.length_map]; omega)) hw0
            have hwe : ∀ y ∈ elems ++ rest, ∀ m ∈ DataW.weights P e y.1, m ≤ reachBytes := fun y hy m hm => hwt m (by
              simp only [DataW.weights, hu, List.mem_cons, List.mem_append]
              rcases List.mem_append.1 hy with hy | hy
              · exact .inr (.inl (mem_weightsAll (List.mem_map_of_mem hy) hm))
              · exact .inr (.inr (mem_weightsAll (List.mem_map_of_mem hy) hm)))
            have hall : ∀ k, k < cap → ∃ cs' y, w.cells? 0 (a.add (k * P.cellsOf e)) (P.cellsOf e) = some cs' ∧ DataW.trod enc P w 0 (fun _ => true) true n e cs' = some y ∧ y ∈ elems ++ rest := by
              intro k hk
              have key : ∃ y, (w.cells? 0 (a.add (k * P.cellsOf e)) (P.cellsOf e)).bind (DataW.trod enc P w 0 (fun _ => true) true n e) = some y ∧ y ∈ elems ++ rest := by
                by_cases hkl : k < len
                · exact ⟨elems[k]'(by omega), by rw [hel1 k hkl, List.getElem?_eq_getElem (by omega)], List.mem_append_left _ (List.getElem_mem _)⟩
                · obtain ⟨h1, h2⟩ := hel2 rfl
                  have := h2 (k - len) (by omega)
                  rw [show len + (k - len) = k by omega] at this
                  exact ⟨rest[k - len]'(by omega), by rw [this, List.getElem?_eq_getElem (by omega)], List.mem_append_right _ (List.getElem_mem _)⟩
              obtain ⟨y, hy, hy2⟩ := key
              obtain ⟨cs', h1, h2⟩ := Option.bind_eq_some_iff.1 hy
              exact ⟨cs', y, h1, h2, hy2⟩
            rw [hcz] at hall
            let f : Nat → List Value := fun k => (w.cells? 0 (a.add (k * el.ty.size)) el.ty.size).getD []
            have hf : ∀ k, k < cap → w.cells? 0 (a.add (k * el.ty.size)) el.ty.size = some (f k) ∧ ∃ y, DataW.trod enc P w 0 (fun _ => true) true n e (f k) = some y ∧ y ∈ elems ++ rest := by
              intro k hk
              obtain ⟨cs', y, h1, h2, h3⟩ := hall k hk
              have : f k = cs' := by simp only [f, h1, Option.getD_some]
              rw [this]
              exact ⟨h1, y, h2, h3⟩
            obtain ⟨E1, l1, vs, R1, N1, X1, V1, L1, D1⟩ := Read.list (P := P) (tt := tt) (w := w) (n := n) ((List.range cap).map fun k => (e, f k))
              (fun y hy => by
                obtain ⟨k, hk, rfl⟩ := List.mem_map.1 hy
                obtain ⟨_, z, hz, hz2⟩ := hf k (List.mem_range.1 hk)
                exact read_ok T hok2 n e (f k) z hoe hz (hwe z hz2))
              (fun y hy => by obtain ⟨k, _, rfl⟩ := List.mem_map.1 hy; exact ⟨el, hel⟩) E hp R N
            rw [List.length_map, List.length_range] at L1
            have hcells : ((List.range cap).map fun k => (e, f k)).flatMap (·.2) = (List.range cap).flatMap f := by rw [List.flatMap_map]
            rw [hcells] at V1
            have helem : ∀ j, j < cap → ∃ v, vs[j]? = some v ∧ hasTy v el.ty = true ∧ Rd P tt (hp ++ l1) n e v := by
              intro j hj
              obtain ⟨v, i', hv, hi', ht, _, hr⟩ := D1 j (e, f j) (by simp [hj])
              rw [hel] at hi'
              simp only [Option.some.injEq] at hi'
              subst hi'
              exact ⟨v, hv, ht, hr⟩
            obtain ⟨W1, W2, W3, W4⟩ := mkRow_spec (u := el.ty) (fun v hv => by
              obtain ⟨j, hj⟩ := List.getElem?_of_mem hv
              obtain ⟨v', hv', ht, _⟩ := helem j (by have := (List.getElem?_eq_some_iff.1 hj).1; omega)
              rw [hj] at hv'
              simp only [Option.some.injEq] at hv'
              rw [hv']; exact ht) V1
            rw [L1] at W2
            have hres : ∀ (m : Vab.Mode) (many : Bool) (ty : Ty), RelHeap (E1.pushAt a.block a.off many ty) ((hp ++ l1) ++ [⟨mkRow el.ty vs, 0, m⟩]) w → NoOwn (E1.pushAt a.block a.off many ty) ((hp ++ l1) ++ [⟨mkRow el.ty vs, 0, m⟩]) →
                (∃ c, ty = .arr c el.ty) → (cap ≠ 0 → a.spot = none) → m ≠ Vab.Mode.mp →
                ∃ E' l v, RelHeap E' (hp ++ l) w ∧ NoOwn E' (hp ++ l) ∧ Ext E E' ∧ VRl E' v [.slice (some a) len cap] ∧ hasTy v i.ty = true ∧ Rd P tt (hp ++ l) (n + 1) t v := by
              intro m many ty R2 N2 ⟨c', hty'⟩ hsp hnm
              refine ⟨E1.pushAt a.block a.off many ty, l1 ++ [⟨mkRow el.ty vs, 0, m⟩], .slice (hp ++ l1).length 0 [] el.ty 0 len (some cap), by rw [← List.append_assoc]; exact R2, by rw [← List.append_assoc]; exact N2,
                X1.trans (Gh.pushAt_ext ..), ?_, by rw [hty]; rfl, ?_⟩
              · simp only [VRl]
                have hE : (hp ++ l1).length = E1.n := R1.n.symm
                rw [hE]
                refine ⟨a, cap, rfl, by simp [Gh.pushAt], by simp, hl, by simp, by simp, fun _ => ⟨0, c', by simp [Gh.pushAt, hty', Ty.sub], fun hc => ?_, by simp⟩⟩
                have hs := hsp hc
                cases a
                simp only at hs
                simp [Gh.pushAt, hs]
              · unfold Rd
                rw [hu]
                right
                refine ⟨_, el, mkRow el.ty vs, ⟨m, hnm⟩, len, cap, rfl, hel, ?_, W2, hl, hmx, hw1, fun j hj => ?_⟩
                · rw [← List.append_assoc, List.getElem?_append_right (Nat.le_refl _)]; simp
                · obtain ⟨v, hv, _, hr⟩ := helem j hj
                  exact ⟨v, by rw [W3, hv], by rw [← List.append_assoc]; exact Rd.app _ _ _ _ hr⟩
            by_cases hc0 : cap = 0
            · subst hc0
              have hz : vs = [] := List.eq_nil_of_length_eq_zero L1
              obtain ⟨R2, N2⟩ := rel_push R1 N1 ⟨mkRow el.ty vs, 0, Vab.Mode.open⟩ a.block a.off true (.arr 0 el.ty) rfl (by simp only [if_true]; exact ⟨0, el.ty, rfl, W2⟩) W1 (.inr ⟨rfl, rfl, rfl, by rw [W4, L1]⟩)
              exact hres Vab.Mode.open true _ R2 N2 ⟨0, rfl⟩ (fun h => absurd rfl h) (by simp)
            · obtain ⟨arr, te, fr, pre, post, g1, g2, g3, g4⟩ := rows_block (w := w) (a := a) (Nat.pos_of_ne_zero hsz) (Nat.pos_of_ne_zero hc0) (fun k hk => (hf k hk).1)
              obtain ⟨R2, N2⟩ := rel_push R1 N1 ⟨mkRow el.ty vs, 0, Vab.Mode.ro⟩ a.block a.off false (.arr cap el.ty) rfl (by simpa using W2) W1 (.inl ⟨rfl, arr, te, fr, pre, post, g1, g3, g4⟩)
              exact hres Vab.Mode.ro false _ R2 N2 ⟨cap, rfl⟩ (fun _ => g2) (by simp)
      case struct fs =>
        simp only [Bool.and_eq_true, List.all_eq_true] at hb
        obtain ⟨hty, hfs⟩ := hb
        cases hit : i.ty with
        | struct ts =>
          obtain ⟨fs', hu', hsz, _, hfld⟩ := T.struct t i ts hi hit
          rw [hu] at hu'
          simp only [Option.some.injEq, TypeDesc.struct.injEq] at hu'
          subst hu'
          obtain ⟨xs, n', hn, rfl, hlen, hxl, hx⟩ := DataW.trod_struct hu h
          have hn' : n = n' := by omega
          subst hn'
          have hcell := hok.2 t (by simpa using hm)
          rw [hi] at hcell
          simp only [decide_eq_true_eq] at hcell
          rw [hcell, hit] at hlen
          simp only [Ty.size] at hlen
          have hch := chops ts cs hlen
          have hf : ∀ (f : Nat) (y : Field), fs[f]? = some y → ∃ j, tt y.type = some j ∧ ts[f]? = some j.ty ∧ (cs.drop y.offset).take (P.cellsOf y.type) = (cs.drop (Ty.sizes (ts.take f))).take (match ts[f]? with | some t => t.size | none => 0) ∧ Read P tt w n y.type ((cs.drop y.offset).take (P.cellsOf y.type)) := by
            intro f y hy
            obtain ⟨_, ho, j, hj, htf, _⟩ := hfld f y hy
            have hmem : y ∈ fs.toList := List.mem_of_getElem? (by simpa using hy)
            have h3 := hfs y hmem
            rw [hj] at h3
            simp only [decide_eq_true_eq] at h3
            refine ⟨j, hj, htf, ?_, ?_⟩
            · rw [ho, h3.2, htf]
            · have hlt : f < fs.size := (Array.getElem?_eq_some_iff.1 hy).1
              have h4 := hx f y hy
              rw [List.getElem?_eq_getElem (by omega)] at h4
              refine read_ok T hok2 n y.type _ _ h3.1 h4 (fun m hm => hwt m ?_)
              simp only [DataW.weights, hu]
              exact mem_weightsEach (i := f) (by simp [hy]) (by rw [List.getElem?_map, List.getElem?_eq_getElem (by omega)]; rfl) hm
          obtain ⟨E1, l1, vs, R1, N1, X1, V1, L1, D1⟩ := Read.list (P := P) (tt := tt) (w := w) (n := n) (fs.toList.map fun y => (y.type, (cs.drop y.offset).take (P.cellsOf y.type)))
            (fun z hz => by
              obtain ⟨y, hy, rfl⟩ := List.mem_map.1 hz
              obtain ⟨f, hfy⟩ := List.getElem?_of_mem hy
              obtain ⟨j, _, _, _, hr⟩ := hf f y (by simpa using hfy)
              exact hr)
            (fun z hz => by
              obtain ⟨y, hy, rfl⟩ := List.mem_map.1 hz
              obtain ⟨f, hfy⟩ := List.getElem?_of_mem hy
              obtain ⟨j, hj, _⟩ := hf f y (by simpa using hfy)
              exact ⟨j, hj⟩) E hp R N
          rw [List.length_map] at L1
          have L1 : vs.length = fs.size := by rw [L1]; simp
          have hcat : (fs.toList.map fun y => (y.type, (cs.drop y.offset).take (P.cellsOf y.type))).flatMap (·.2) = cs := by
            rw [List.flatMap_map]
            rw [flatMap_of_get (n := ts.length) (f := fun f => (cs.drop (Ty.sizes (ts.take f))).take (match ts[f]? with | some t => t.size | none => 0)) (by simpa using hsz) (fun f y hy => ?_)]
            · exact hch
            · obtain ⟨j, _, _, he, _⟩ := hf f y (by simpa using hy)
              exact he
          rw [hcat] at V1
          have hD : ∀ (f : Nat) (y : Field), fs[f]? = some y → ∃ v, ∃ j : TI, vs[f]? = some v ∧ ts[f]? = some j.ty ∧ hasTy v j.ty = true ∧ Rd P tt (hp ++ l1) n y.type v := by
            intro f y hy
            obtain ⟨v, j', hv, hj', ht, _, hr⟩ := D1 f (y.type, (cs.drop y.offset).take (P.cellsOf y.type)) (by rw [List.getElem?_map, Array.getElem?_toList, hy]; rfl)
            obtain ⟨j, hj, htf, _⟩ := hf f y hy
            rw [hj] at hj'
            simp only [Option.some.injEq] at hj'
            subst hj'
            exact ⟨v, j, hv, htf, ht, hr⟩
          refine ⟨E1, l1, .node vs, R1, N1, X1, by simpa only [VRl] using V1, ?_, ?_⟩
          · simp only [hasTy]
            refine hasTys_of (by omega) (fun f v t' hv ht' => ?_)
            have hlt : f < fs.size := by have := (List.getElem?_eq_some_iff.1 hv).1; omega
            obtain ⟨v', j, hv', htf, ht, _⟩ := hD f fs[f] (Array.getElem?_eq_getElem hlt)
            rw [hv] at hv'; rw [ht'] at htf
            simp only [Option.some.injEq] at hv' htf
            rw [hv', htf]; exact ht
          · unfold Rd
            rw [hu]
            exact ⟨vs, rfl, fun f y hy => by obtain ⟨v, j, hv, _, _, hr⟩ := hD f y hy; exact ⟨v, hv, hr⟩⟩
        | int k => rw [hit] at hty; cases hty
        | cell => rw [hit] at hty; cases hty
        | arr a b => rw [hit] at hty; cases hty
      case array m e =>
        simp only [Bool.and_eq_true] at hb
        obtain ⟨⟨hty, hoe⟩, hce⟩ := hb
        cases hit : i.ty with
        | arr m' u =>
          obtain ⟨e', el, hu', hel, hjt⟩ := T.arr t i m' u hi hit
          rw [hu] at hu'
          simp only [Option.some.injEq, TypeDesc.array.injEq] at hu'
          obtain ⟨rfl, rfl⟩ := hu'
          rw [hel] at hce
          simp only [decide_eq_true_eq] at hce
          obtain ⟨xs, n', hn, rfl, hlen, hxl, hx⟩ := DataW.trod_array hu h
          have hn' : n = n' := by omega
          subst hn'
          have hcell := hok.2 t (by simpa using hm)
          rw [hi] at hcell
          simp only [decide_eq_true_eq] at hcell
          rw [hcell, hit] at hlen
          simp only [Ty.size] at hlen
          rw [← hjt] at hlen
          have hch := chop el.ty.size m cs hlen
          rw [hce] at hx
          obtain ⟨E1, l1, vs, R1, N1, X1, V1, L1, D1⟩ := Read.list (P := P) (tt := tt) (w := w) (n := n) ((List.range m).map fun k => (e, (cs.drop (k * el.ty.size)).take el.ty.size))
            (fun y hy => by
              obtain ⟨k, hk, rfl⟩ := List.mem_map.1 hy
              have hk := List.mem_range.1 hk
              have h4 := hx k hk
              rw [List.getElem?_eq_getElem (by omega)] at h4
              refine read_ok T hok2 n e _ _ hoe h4 (fun m hm => hwt m ?_)
              simp only [DataW.weights, hu]
              exact mem_weightsAll (List.mem_map_of_mem (List.getElem_mem _)) hm)
            (fun y hy => by obtain ⟨k, _, rfl⟩ := List.mem_map.1 hy; exact ⟨el, hel⟩) E hp R N
          rw [List.length_map, List.length_range] at L1
          rw [List.flatMap_map, hch] at V1
          have helem : ∀ j, j < m → ∃ v, vs[j]? = some v ∧ hasTy v el.ty = true ∧ Rd P tt (hp ++ l1) n e v := by
            intro j hj
            obtain ⟨v, i', hv, hi', ht, _, hr⟩ := D1 j (e, (cs.drop (j * el.ty.size)).take el.ty.size) (by simp [hj])
            rw [hel] at hi'
            simp only [Option.some.injEq] at hi'
            subst hi'
            exact ⟨v, hv, ht, hr⟩
          obtain ⟨W1, W2, W3, W4⟩ := mkRow_spec (u := el.ty) (fun v hv => by
            obtain ⟨j, hj⟩ := List.getElem?_of_mem hv
            obtain ⟨v', hv', ht, _⟩ := helem j (by have := (List.getElem?_eq_some_iff.1 hj).1; omega)
            rw [hj] at hv'
            simp only [Option.some.injEq] at hv'
            rw [hv']; exact ht) V1
          rw [L1] at W2
          refine ⟨E1, l1, mkRow el.ty vs, R1, N1, X1, W1, by rw [← hjt]; exact W2, ?_⟩
          unfold Rd
          rw [hu]
          intro j hj
          obtain ⟨v, hv, _, hr⟩ := helem j hj
          exact ⟨v, by rw [W3, hv], hr⟩
        | int k => rw [hit] at hty; cases hty
        | cell => rw [hit] at hty; cases hty
        | struct b => rw [hit] at hty; cases hty


open Go.RowKit Go.WideShapes Go.ChangeShapes
/-- All arguments avs abstract values. -/
theorem read_args (T : TTok P tt) (hok : plainB P tt ok = true) {W : World} {base : Nat} : ∀ (ts : List TypeId) (vs : List Value) (ds : List (DataW H)) (ps : List MemPlace), (∀ t ∈ ts, ok.contains t = true) → (∀ t ∈ ts, ∃ i, tt t = some i) →
    DataW.TrodAll enc P W 0 (fun _ => true) true ts vs ds ps → (∀ m ∈ DataW.weightsEach P ts ds, m ≤ reachBytes) → (∀ (j : Nat) t v, ts[j]? = some t → vs[j]? = some v → Value.okWide P W .any base t v) →
    ∀ E h, RelHeap E h W → NoOwn E h → ∃ E' l avs, RelHeap E' (h ++ l) W ∧ NoOwn E' (h ++ l) ∧ Ext E E' ∧ VRc E' avs vs ∧ avs.length = ts.length ∧ ∀ (j : Nat) t a, ts[j]? = some t → avs[j]? = some a → ∃ n i, tt t = some i ∧ hasTy a i.ty = true ∧ Rd P tt (h ++ l) n t a
  | [], [], [], ps, _, _, _, _, _, E, h, R, N => ⟨E, [], [], by simpa using R, by simpa using N, Ext.refl E, by simp [VRc], rfl, fun j t a hj => by simp at hj⟩
  | t :: ts, v :: vs, d :: ds, ps, ho, hi, hr, hwt, hv, E, h, R, N => by
    obtain ⟨p, q, ⟨n, h1⟩, h2, _⟩ := hr
    obtain ⟨i, hti⟩ := hi t (List.mem_cons_self ..)
    obtain ⟨E1, l1, a, R1, N1, X1, V1, T1, D1⟩ := read_ok T hok n t _ _ (ho t (List.mem_cons_self ..)) h1 (fun m hm => hwt m (by simp only [DataW.weightsEach]; exact List.mem_append_left _ hm)) E h R N i hti
    obtain ⟨E2, l2, avs, R2, N2, X2, V2, L2, D2⟩ := read_args T hok ts vs ds q (fun y hy => ho y (List.mem_cons_of_mem _ hy)) (fun y hy => hi y (List.mem_cons_of_mem _ hy)) h2 (fun m hm => hwt m (by simp only [DataW.weightsEach]; exact List.mem_append_right _ hm)) (fun j t v hj hjv => hv (j + 1) t v (by simpa using hj) (by simpa using hjv)) E1 (h ++ l1) R1 N1
    have hval := value_of_cells T hti (hv 0 t v rfl rfl)
    refine ⟨E2, l1 ++ l2, a :: avs, by rw [← List.append_assoc]; exact R2, by rw [← List.append_assoc]; exact N2, X1.trans X2, ?_, by simp [L2], fun j u b hj hb => ?_⟩
    · simp only [VRc]
      refine ⟨v, vs, rfl, ?_, V2⟩
      rw [hval]
      exact VRel.mono X2 _ _ (VRel.of_cells T1 V1)
    · rw [← List.append_assoc]
      cases j with
      | zero =>
        simp at hj hb; subst hj; subst hb
        exact ⟨n, i, hti, T1, Rd.app l2 _ _ _ D1⟩
      | succ j => exact D2 j u b (by simpa using hj) (by simpa using hb)
  | [], _ :: _, _, _, _, _, hr, _, _, _, _, _, _ => by simp [DataW.TrodAll] at hr
  | [], [], _ :: _, _, _, _, hr, _, _, _, _, _, _ => by simp [DataW.TrodAll] at hr
  | _ :: _, [], _, _, _, _, hr, _, _, _, _, _, _ => by simp [DataW.TrodAll] at hr
  | _ :: _, _ :: _, [], _, _, _, hr, _, _, _, _, _, _ => by simp [DataW.TrodAll] at hr


end

theorem SpecQ.calls {P : Program} {f : Nat} {fn : Func} {args : List AV} {h : Heap} {K : AV × Heap → Prop} (hs : SpecQ P f args h K) (hf : P.funcs[f]? = some fn) (hb : fn.body.isSome = true) (hn : (fn.name == "runtime.NumGoroutine") = false) :
    ∀ (E : Gh) (w : World) (xs : List Value), RelHeap E h w → VRc E args xs → Calls P f xs.toArray w fun e w' => ∃ r E' x, K r ∧ e = .returned x ∧ VRel E' r.1 x ∧ Moves E h w E' r.2 w' := by
  intro E w xs R V
  rcases hs E w xs R V with ⟨_, h2⟩ | ⟨x, w', r, E', h1, _⟩
  · exact h2
  · obtain ⟨c, hc⟩ := Option.isSome_iff_exists.1 hb
    have h3 : fn.name ≠ "runtime.NumGoroutine" := by simpa using hn
    simp [callFunc, hf, h3, hc] at h1

/-- What a law is handed, avs it was read. -/
def Handed (P : Program) (tt : Nat → Option TI) (h : Heap) (ts : List TypeId) (avs : List AV) : Prop :=
  avs.length = ts.length ∧ ∀ (j : Nat) t a, ts[j]? = some t → avs[j]? = some a → ∃ n i, tt t = some i ∧ hasTy a i.ty = true ∧ Rd P tt h n t a

theorem law_lifted_sized {C : Checked} {tt : Nat → Option TI} {ok : List TypeId} {os : Os} {f : FuncId} {fn : Func} {s : ChangeSpec} {b : Nat} {H : Type} {enc : TypeId × Value → H} (T : TTok C.prog tt) (hok : plainB C.prog tt ok = true)
    (own : ownKnob C.prog.godebug = none) (hl : laidOutB C.prog = true) (started : os.Started) (noInit : C.prog.inits.idxOf? f = none) (hfn : C.prog.funcs[f]? = some fn) (hvars : s.vars = [])
    (hread : (fn.params.toList.all fun t => C.prog.readableRec t && decide (t < C.prog.types.size) && ok.contains t && (tt t).isSome) = true) (hres : fn.resultTypes = #[b]) (hbool : C.prog.underlying b = some .bool)
    (hs : ∀ ds : List (DataW H), ds.length = fn.params.size → s.fn H ds = { results := [.lit (.bool true)], args := ds })
    (witness : ∃ (w : World) (tape : Tape) (i : Input), w.os = os ∧ (w.forCall tape i).Shaped C.prog ∧ i.vars = [] ∧ Input.okWide C.prog (w.forCall tape i) .any w.heap.size f i ∧
      s.pre6 enc C.prog fn [] false (w.forCall tape i).memory i.args ∧ ({ modest := false } : Assume).holds C.prog (lone (Frame.enter C.prog f i.args .normal) [] (w.forCall tape i)))
    (hbody : fn.body.isSome = true) (hname : (fn.name == "runtime.NumGoroutine") = false)
    (spec : ∀ avs h, Handed C.prog tt h fn.params.toList avs → SpecQ C.prog f avs h fun r => r.1 = .bool true) :
    ReturnsInHanded {} C os f .any (s.pre6 enc C.prog fn [] false) (s.post enc C.prog fn false true false false) := by
  refine returnsInHanded_of_change_sized own started noInit hfn witness ?_
  intro W base args ds gs before hval hW _ hwt _
  simp only [List.all_eq_true, Bool.and_eq_true, decide_eq_true_eq] at hread
  have hW0 := hW
  obtain ⟨p, q, h1, h2, he, hz, hn⟩ := hW
  have hgs : gs = [] := by
    rw [hvars] at h2
    cases gs with
    | nil => rfl
    | cons _ _ => simp [DataW.TrodVars] at h2
  subst hgs
  have hwt' : ∀ m ∈ DataW.weightsEach C.prog fn.params.toList ds, m ≤ reachBytes := by
    have ev : s.plain.varTypes C.prog = [] := by
      unfold DataSpec.varTypes
      simp [ChangeSpec.plain, hvars]
    rw [ev, List.append_nil, List.append_nil] at hwt
    simpa using hwt
  obtain ⟨E, l, avs, R, N, X, V, L, D⟩ := read_args T hok fn.params.toList args.toList ds p (fun t ht => (hread t ht).1.2) (fun t ht => Option.isSome_iff_exists.1 (hread t ht).2) h1 hwt' (fun j t v hj hv => hval j t v (by simpa using hj) (by simpa using hv)) E00 [] (rel00 W) (fun i b hb => by simp at hb)
  simp only [List.nil_append] at R N D
  have hsp := SpecQ.calls (spec avs l ⟨L, D⟩) hfn hbody hname
  have hlen : ds.length = fn.params.size := by
    have : ∀ (ts : List TypeId) (vs : List Value) (ds : List (DataW H)) (ps : List MemPlace), DataW.TrodAll enc C.prog W 0 (fun _ => true) true ts vs ds ps → ds.length = ts.length := by
      intro ts
      induction ts with
      | nil =>
        intro vs ds ps h
        cases vs <;> cases ds <;> simp [DataW.TrodAll] at h ⊢
      | cons t ts ih =>
        intro vs ds ps h
        cases vs <;> cases ds <;> simp only [DataW.TrodAll] at h
        obtain ⟨_, _, _, h, _⟩ := h
        simp [ih _ _ _ h]
    rw [this _ _ _ _ h1]; simp
  have hc := hsp E W args.toList R V
  simp only [Array.toArray_toList] at hc
  refine hc.mono fun e W' hp => ?_
  obtain ⟨⟨rv, h'⟩, E', x, hrv, rfl, hx, m⟩ := hp
  dsimp only at hrv hx m
  subst hrv
  simp only [VRel] at hx
  subst hx
  exact ⟨_, rfl, post_true hl hvars (fun t ht => (hread t ht).1.1) hres hbool (hs ds hlen) hW0 (below_of_moves N m)⟩


end Go.Vas

/- The struct types of the seats. Printed by wip/tools/gen2.py (own work). -/
namespace Go.Vab
open Go
def tPublic : Ty := (.struct [(.arr 32 (.int .u8)), (.arr 32 (.int .u8))])
theorem tPublic_x : tPublic = (.struct [(.arr 32 (.int .u8)), (.arr 32 (.int .u8))]) := rfl
@[simp] theorem hasTy_tPublic (vs : List AV) : hasTy (.node vs) tPublic = hasTys vs [(.arr 32 (.int .u8)), (.arr 32 (.int .u8))] := rfl
@[simp] theorem size_tPublic : Ty.size tPublic = 64 := by rfl
@[simp] theorem mEq_tPublic (op : BinOp) (x y : AV) : mEq tPublic op x y = if hasTy x tPublic && hasTy y tPublic then (match op with | .eql => bnd (eqv x y) fun b => some (.bool b) | .neq => bnd (eqv x y) fun b => some (.bool !b) | _ => none) else none := rfl
@[simp] theorem hasTy_row_tPublic (vs : List AV) (n : Nat) : hasTy (.node vs) (.arr n tPublic) = (decide (vs.length = n) && hasTyAll vs tPublic) := rfl
@[simp] theorem mFieldAddr_tPublic_0 (b ver : Nat) (path : List Nat) : mFieldAddr tPublic (.ptr b ver path tPublic) 0 = some (.ptr b ver (path ++ [0]) (.arr 32 (.int .u8))) := by simp [mFieldAddr, tPublic]
@[simp] theorem mField_tPublic_0 (vs : List AV) : mField tPublic (.node vs) 0 = if hasTys vs [(.arr 32 (.int .u8)), (.arr 32 (.int .u8))] then vs[0]? else none := rfl
@[simp] theorem mFieldAddr_tPublic_1 (b ver : Nat) (path : List Nat) : mFieldAddr tPublic (.ptr b ver path tPublic) 1 = some (.ptr b ver (path ++ [1]) (.arr 32 (.int .u8))) := by simp [mFieldAddr, tPublic]
@[simp] theorem mField_tPublic_1 (vs : List AV) : mField tPublic (.node vs) 1 = if hasTys vs [(.arr 32 (.int .u8)), (.arr 32 (.int .u8))] then vs[1]? else none := rfl
def tAccess : Ty := (.struct [(.int .u8), (.int .u8), (.int .u8)])
theorem tAccess_x : tAccess = (.struct [(.int .u8), (.int .u8), (.int .u8)]) := rfl
@[simp] theorem hasTy_tAccess (vs : List AV) : hasTy (.node vs) tAccess = hasTys vs [(.int .u8), (.int .u8), (.int .u8)] := rfl
@[simp] theorem size_tAccess : Ty.size tAccess = 3 := by rfl
@[simp] theorem mEq_tAccess (op : BinOp) (x y : AV) : mEq tAccess op x y = if hasTy x tAccess && hasTy y tAccess then (match op with | .eql => bnd (eqv x y) fun b => some (.bool b) | .neq => bnd (eqv x y) fun b => some (.bool !b) | _ => none) else none := rfl
@[simp] theorem hasTy_row_tAccess (vs : List AV) (n : Nat) : hasTy (.node vs) (.arr n tAccess) = (decide (vs.length = n) && hasTyAll vs tAccess) := rfl
@[simp] theorem mFieldAddr_tAccess_0 (b ver : Nat) (path : List Nat) : mFieldAddr tAccess (.ptr b ver path tAccess) 0 = some (.ptr b ver (path ++ [0]) (.int .u8)) := by simp [mFieldAddr, tAccess]
@[simp] theorem mField_tAccess_0 (vs : List AV) : mField tAccess (.node vs) 0 = if hasTys vs [(.int .u8), (.int .u8), (.int .u8)] then vs[0]? else none := rfl
@[simp] theorem mFieldAddr_tAccess_1 (b ver : Nat) (path : List Nat) : mFieldAddr tAccess (.ptr b ver path tAccess) 1 = some (.ptr b ver (path ++ [1]) (.int .u8)) := by simp [mFieldAddr, tAccess]
@[simp] theorem mField_tAccess_1 (vs : List AV) : mField tAccess (.node vs) 1 = if hasTys vs [(.int .u8), (.int .u8), (.int .u8)] then vs[1]? else none := rfl
@[simp] theorem mFieldAddr_tAccess_2 (b ver : Nat) (path : List Nat) : mFieldAddr tAccess (.ptr b ver path tAccess) 2 = some (.ptr b ver (path ++ [2]) (.int .u8)) := by simp [mFieldAddr, tAccess]
@[simp] theorem mField_tAccess_2 (vs : List AV) : mField tAccess (.node vs) 2 = if hasTys vs [(.int .u8), (.int .u8), (.int .u8)] then vs[2]? else none := rfl
def tState : Ty := (.struct [(.int .u32), tPublic, .cell, tAccess, .cell, .cell, .cell, .cell, .cell])
theorem tState_x : tState = (.struct [(.int .u32), tPublic, .cell, tAccess, .cell, .cell, .cell, .cell, .cell]) := rfl
@[simp] theorem hasTy_tState (vs : List AV) : hasTy (.node vs) tState = hasTys vs [(.int .u32), tPublic, .cell, tAccess, .cell, .cell, .cell, .cell, .cell] := rfl
@[simp] theorem size_tState : Ty.size tState = 74 := by rfl
@[simp] theorem mEq_tState (op : BinOp) (x y : AV) : mEq tState op x y = if hasTy x tState && hasTy y tState then (match op with | .eql => bnd (eqv x y) fun b => some (.bool b) | .neq => bnd (eqv x y) fun b => some (.bool !b) | _ => none) else none := rfl
@[simp] theorem hasTy_row_tState (vs : List AV) (n : Nat) : hasTy (.node vs) (.arr n tState) = (decide (vs.length = n) && hasTyAll vs tState) := rfl
@[simp] theorem mFieldAddr_tState_0 (b ver : Nat) (path : List Nat) : mFieldAddr tState (.ptr b ver path tState) 0 = some (.ptr b ver (path ++ [0]) (.int .u32)) := by simp [mFieldAddr, tState]
@[simp] theorem mField_tState_0 (vs : List AV) : mField tState (.node vs) 0 = if hasTys vs [(.int .u32), tPublic, .cell, tAccess, .cell, .cell, .cell, .cell, .cell] then vs[0]? else none := rfl
@[simp] theorem mFieldAddr_tState_1 (b ver : Nat) (path : List Nat) : mFieldAddr tState (.ptr b ver path tState) 1 = some (.ptr b ver (path ++ [1]) tPublic) := by simp [mFieldAddr, tState]
@[simp] theorem mField_tState_1 (vs : List AV) : mField tState (.node vs) 1 = if hasTys vs [(.int .u32), tPublic, .cell, tAccess, .cell, .cell, .cell, .cell, .cell] then vs[1]? else none := rfl
@[simp] theorem mFieldAddr_tState_2 (b ver : Nat) (path : List Nat) : mFieldAddr tState (.ptr b ver path tState) 2 = some (.ptr b ver (path ++ [2]) .cell) := by simp [mFieldAddr, tState]
@[simp] theorem mField_tState_2 (vs : List AV) : mField tState (.node vs) 2 = if hasTys vs [(.int .u32), tPublic, .cell, tAccess, .cell, .cell, .cell, .cell, .cell] then vs[2]? else none := rfl
@[simp] theorem mFieldAddr_tState_3 (b ver : Nat) (path : List Nat) : mFieldAddr tState (.ptr b ver path tState) 3 = some (.ptr b ver (path ++ [3]) tAccess) := by simp [mFieldAddr, tState]
@[simp] theorem mField_tState_3 (vs : List AV) : mField tState (.node vs) 3 = if hasTys vs [(.int .u32), tPublic, .cell, tAccess, .cell, .cell, .cell, .cell, .cell] then vs[3]? else none := rfl
@[simp] theorem mFieldAddr_tState_4 (b ver : Nat) (path : List Nat) : mFieldAddr tState (.ptr b ver path tState) 4 = some (.ptr b ver (path ++ [4]) .cell) := by simp [mFieldAddr, tState]
@[simp] theorem mField_tState_4 (vs : List AV) : mField tState (.node vs) 4 = if hasTys vs [(.int .u32), tPublic, .cell, tAccess, .cell, .cell, .cell, .cell, .cell] then vs[4]? else none := rfl
@[simp] theorem mFieldAddr_tState_5 (b ver : Nat) (path : List Nat) : mFieldAddr tState (.ptr b ver path tState) 5 = some (.ptr b ver (path ++ [5]) .cell) := by simp [mFieldAddr, tState]
@[simp] theorem mField_tState_5 (vs : List AV) : mField tState (.node vs) 5 = if hasTys vs [(.int .u32), tPublic, .cell, tAccess, .cell, .cell, .cell, .cell, .cell] then vs[5]? else none := rfl
@[simp] theorem mFieldAddr_tState_6 (b ver : Nat) (path : List Nat) : mFieldAddr tState (.ptr b ver path tState) 6 = some (.ptr b ver (path ++ [6]) .cell) := by simp [mFieldAddr, tState]
@[simp] theorem mField_tState_6 (vs : List AV) : mField tState (.node vs) 6 = if hasTys vs [(.int .u32), tPublic, .cell, tAccess, .cell, .cell, .cell, .cell, .cell] then vs[6]? else none := rfl
@[simp] theorem mFieldAddr_tState_7 (b ver : Nat) (path : List Nat) : mFieldAddr tState (.ptr b ver path tState) 7 = some (.ptr b ver (path ++ [7]) .cell) := by simp [mFieldAddr, tState]
@[simp] theorem mField_tState_7 (vs : List AV) : mField tState (.node vs) 7 = if hasTys vs [(.int .u32), tPublic, .cell, tAccess, .cell, .cell, .cell, .cell, .cell] then vs[7]? else none := rfl
@[simp] theorem mFieldAddr_tState_8 (b ver : Nat) (path : List Nat) : mFieldAddr tState (.ptr b ver path tState) 8 = some (.ptr b ver (path ++ [8]) .cell) := by simp [mFieldAddr, tState]
@[simp] theorem mField_tState_8 (vs : List AV) : mField tState (.node vs) 8 = if hasTys vs [(.int .u32), tPublic, .cell, tAccess, .cell, .cell, .cell, .cell, .cell] then vs[8]? else none := rfl
def tCipher : Ty := (.struct [(.arr 32 (.int .u8)), (.arr 32 (.int .u8))])
theorem tCipher_x : tCipher = (.struct [(.arr 32 (.int .u8)), (.arr 32 (.int .u8))]) := rfl
@[simp] theorem hasTy_tCipher (vs : List AV) : hasTy (.node vs) tCipher = hasTys vs [(.arr 32 (.int .u8)), (.arr 32 (.int .u8))] := rfl
@[simp] theorem size_tCipher : Ty.size tCipher = 64 := by rfl
@[simp] theorem mEq_tCipher (op : BinOp) (x y : AV) : mEq tCipher op x y = if hasTy x tCipher && hasTy y tCipher then (match op with | .eql => bnd (eqv x y) fun b => some (.bool b) | .neq => bnd (eqv x y) fun b => some (.bool !b) | _ => none) else none := rfl
@[simp] theorem hasTy_row_tCipher (vs : List AV) (n : Nat) : hasTy (.node vs) (.arr n tCipher) = (decide (vs.length = n) && hasTyAll vs tCipher) := rfl
@[simp] theorem mFieldAddr_tCipher_0 (b ver : Nat) (path : List Nat) : mFieldAddr tCipher (.ptr b ver path tCipher) 0 = some (.ptr b ver (path ++ [0]) (.arr 32 (.int .u8))) := by simp [mFieldAddr, tCipher]
@[simp] theorem mField_tCipher_0 (vs : List AV) : mField tCipher (.node vs) 0 = if hasTys vs [(.arr 32 (.int .u8)), (.arr 32 (.int .u8))] then vs[0]? else none := rfl
@[simp] theorem mFieldAddr_tCipher_1 (b ver : Nat) (path : List Nat) : mFieldAddr tCipher (.ptr b ver path tCipher) 1 = some (.ptr b ver (path ++ [1]) (.arr 32 (.int .u8))) := by simp [mFieldAddr, tCipher]
@[simp] theorem mField_tCipher_1 (vs : List AV) : mField tCipher (.node vs) 1 = if hasTys vs [(.arr 32 (.int .u8)), (.arr 32 (.int .u8))] then vs[1]? else none := rfl
def tAction : Ty := (.struct [(.int .u32), (.int .u8), tCipher, (.arr 32 (.int .u8)), (.int .u8), .cell, tAccess, .cell])
theorem tAction_x : tAction = (.struct [(.int .u32), (.int .u8), tCipher, (.arr 32 (.int .u8)), (.int .u8), .cell, tAccess, .cell]) := rfl
@[simp] theorem hasTy_tAction (vs : List AV) : hasTy (.node vs) tAction = hasTys vs [(.int .u32), (.int .u8), tCipher, (.arr 32 (.int .u8)), (.int .u8), .cell, tAccess, .cell] := rfl
@[simp] theorem size_tAction : Ty.size tAction = 104 := by rfl
@[simp] theorem mEq_tAction (op : BinOp) (x y : AV) : mEq tAction op x y = if hasTy x tAction && hasTy y tAction then (match op with | .eql => bnd (eqv x y) fun b => some (.bool b) | .neq => bnd (eqv x y) fun b => some (.bool !b) | _ => none) else none := rfl
@[simp] theorem hasTy_row_tAction (vs : List AV) (n : Nat) : hasTy (.node vs) (.arr n tAction) = (decide (vs.length = n) && hasTyAll vs tAction) := rfl
@[simp] theorem mFieldAddr_tAction_0 (b ver : Nat) (path : List Nat) : mFieldAddr tAction (.ptr b ver path tAction) 0 = some (.ptr b ver (path ++ [0]) (.int .u32)) := by simp [mFieldAddr, tAction]
@[simp] theorem mField_tAction_0 (vs : List AV) : mField tAction (.node vs) 0 = if hasTys vs [(.int .u32), (.int .u8), tCipher, (.arr 32 (.int .u8)), (.int .u8), .cell, tAccess, .cell] then vs[0]? else none := rfl
@[simp] theorem mFieldAddr_tAction_1 (b ver : Nat) (path : List Nat) : mFieldAddr tAction (.ptr b ver path tAction) 1 = some (.ptr b ver (path ++ [1]) (.int .u8)) := by simp [mFieldAddr, tAction]
@[simp] theorem mField_tAction_1 (vs : List AV) : mField tAction (.node vs) 1 = if hasTys vs [(.int .u32), (.int .u8), tCipher, (.arr 32 (.int .u8)), (.int .u8), .cell, tAccess, .cell] then vs[1]? else none := rfl
@[simp] theorem mFieldAddr_tAction_2 (b ver : Nat) (path : List Nat) : mFieldAddr tAction (.ptr b ver path tAction) 2 = some (.ptr b ver (path ++ [2]) tCipher) := by simp [mFieldAddr, tAction]
@[simp] theorem mField_tAction_2 (vs : List AV) : mField tAction (.node vs) 2 = if hasTys vs [(.int .u32), (.int .u8), tCipher, (.arr 32 (.int .u8)), (.int .u8), .cell, tAccess, .cell] then vs[2]? else none := rfl
@[simp] theorem mFieldAddr_tAction_3 (b ver : Nat) (path : List Nat) : mFieldAddr tAction (.ptr b ver path tAction) 3 = some (.ptr b ver (path ++ [3]) (.arr 32 (.int .u8))) := by simp [mFieldAddr, tAction]
@[simp] theorem mField_tAction_3 (vs : List AV) : mField tAction (.node vs) 3 = if hasTys vs [(.int .u32), (.int .u8), tCipher, (.arr 32 (.int .u8)), (.int .u8), .cell, tAccess, .cell] then vs[3]? else none := rfl
@[simp] theorem mFieldAddr_tAction_4 (b ver : Nat) (path : List Nat) : mFieldAddr tAction (.ptr b ver path tAction) 4 = some (.ptr b ver (path ++ [4]) (.int .u8)) := by simp [mFieldAddr, tAction]
@[simp] theorem mField_tAction_4 (vs : List AV) : mField tAction (.node vs) 4 = if hasTys vs [(.int .u32), (.int .u8), tCipher, (.arr 32 (.int .u8)), (.int .u8), .cell, tAccess, .cell] then vs[4]? else none := rfl
@[simp] theorem mFieldAddr_tAction_5 (b ver : Nat) (path : List Nat) : mFieldAddr tAction (.ptr b ver path tAction) 5 = some (.ptr b ver (path ++ [5]) .cell) := by simp [mFieldAddr, tAction]
@[simp] theorem mField_tAction_5 (vs : List AV) : mField tAction (.node vs) 5 = if hasTys vs [(.int .u32), (.int .u8), tCipher, (.arr 32 (.int .u8)), (.int .u8), .cell, tAccess, .cell] then vs[5]? else none := rfl
@[simp] theorem mFieldAddr_tAction_6 (b ver : Nat) (path : List Nat) : mFieldAddr tAction (.ptr b ver path tAction) 6 = some (.ptr b ver (path ++ [6]) tAccess) := by simp [mFieldAddr, tAction]
@[simp] theorem mField_tAction_6 (vs : List AV) : mField tAction (.node vs) 6 = if hasTys vs [(.int .u32), (.int .u8), tCipher, (.arr 32 (.int .u8)), (.int .u8), .cell, tAccess, .cell] then vs[6]? else none := rfl
@[simp] theorem mFieldAddr_tAction_7 (b ver : Nat) (path : List Nat) : mFieldAddr tAction (.ptr b ver path tAction) 7 = some (.ptr b ver (path ++ [7]) .cell) := by simp [mFieldAddr, tAction]
@[simp] theorem mField_tAction_7 (vs : List AV) : mField tAction (.node vs) 7 = if hasTys vs [(.int .u32), (.int .u8), tCipher, (.arr 32 (.int .u8)), (.int .u8), .cell, tAccess, .cell] then vs[7]? else none := rfl
def tProof : Ty := (.struct [(.arr 32 (.int .u8)), .cell])
theorem tProof_x : tProof = (.struct [(.arr 32 (.int .u8)), .cell]) := rfl
def tPass : Ty := (.struct [(.arr 32 (.int .u8)), (.arr 32 (.int .u8)), (.arr 32 (.int .u8)), tProof])
theorem tPass_x : tPass = (.struct [(.arr 32 (.int .u8)), (.arr 32 (.int .u8)), (.arr 32 (.int .u8)), tProof]) := rfl
def tTied : Ty := (.struct [(.arr 32 (.int .u8)), tProof])
theorem tTied_x : tTied = (.struct [(.arr 32 (.int .u8)), tProof]) := rfl
def tShown : Ty := (.struct [tPass, tTied])
theorem tShown_x : tShown = (.struct [tPass, tTied]) := rfl
def tVoucher : Ty := (.struct [(.arr 32 (.int .u8)), (.arr 32 (.int .u8)), (.arr 32 (.int .u8)), (.arr 32 (.int .u8)), (.arr 32 (.int .u8)), tProof])
theorem tVoucher_x : tVoucher = (.struct [(.arr 32 (.int .u8)), (.arr 32 (.int .u8)), (.arr 32 (.int .u8)), (.arr 32 (.int .u8)), (.arr 32 (.int .u8)), tProof]) := rfl
def tRequest : Ty := (.struct [(.int .u8), (.arr 16 (.int .u8)), (.int .u32), tPublic, .cell, tAccess, tCipher, .cell, tAction, (.int .u32), tShown, tVoucher])
theorem tRequest_x : tRequest = (.struct [(.int .u8), (.arr 16 (.int .u8)), (.int .u32), tPublic, .cell, tAccess, tCipher, .cell, tAction, (.int .u32), tShown, tVoucher]) := rfl
def tToken : Ty := (.struct [(.arr 32 (.int .u8)), (.arr 32 (.int .u8))])
theorem tToken_x : tToken = (.struct [(.arr 32 (.int .u8)), (.arr 32 (.int .u8))]) := rfl
def tGrant : Ty := (.struct [tToken, tProof])
theorem tGrant_x : tGrant = (.struct [tToken, tProof]) := rfl
def tReply : Ty := (.struct [(.int .i64), (.int .u8), tState, .cell, tGrant])
theorem tReply_x : tReply = (.struct [(.int .i64), (.int .u8), tState, .cell, tGrant]) := rfl
def tSeat : Ty := (.struct [tCipher, (.int .u8), (.int .u32)])
theorem tSeat_x : tSeat = (.struct [tCipher, (.int .u8), (.int .u32)]) := rfl
@[simp] theorem hasTy_tSeat (vs : List AV) : hasTy (.node vs) tSeat = hasTys vs [tCipher, (.int .u8), (.int .u32)] := rfl
@[simp] theorem size_tSeat : Ty.size tSeat = 66 := by rfl
@[simp] theorem mEq_tSeat (op : BinOp) (x y : AV) : mEq tSeat op x y = if hasTy x tSeat && hasTy y tSeat then (match op with | .eql => bnd (eqv x y) fun b => some (.bool b) | .neq => bnd (eqv x y) fun b => some (.bool !b) | _ => none) else none := rfl
@[simp] theorem hasTy_row_tSeat (vs : List AV) (n : Nat) : hasTy (.node vs) (.arr n tSeat) = (decide (vs.length = n) && hasTyAll vs tSeat) := rfl
@[simp] theorem mFieldAddr_tSeat_0 (b ver : Nat) (path : List Nat) : mFieldAddr tSeat (.ptr b ver path tSeat) 0 = some (.ptr b ver (path ++ [0]) tCipher) := by simp [mFieldAddr, tSeat]
@[simp] theorem mField_tSeat_0 (vs : List AV) : mField tSeat (.node vs) 0 = if hasTys vs [tCipher, (.int .u8), (.int .u32)] then vs[0]? else none := rfl
@[simp] theorem mFieldAddr_tSeat_1 (b ver : Nat) (path : List Nat) : mFieldAddr tSeat (.ptr b ver path tSeat) 1 = some (.ptr b ver (path ++ [1]) (.int .u8)) := by simp [mFieldAddr, tSeat]
@[simp] theorem mField_tSeat_1 (vs : List AV) : mField tSeat (.node vs) 1 = if hasTys vs [tCipher, (.int .u8), (.int .u32)] then vs[1]? else none := rfl
@[simp] theorem mFieldAddr_tSeat_2 (b ver : Nat) (path : List Nat) : mFieldAddr tSeat (.ptr b ver path tSeat) 2 = some (.ptr b ver (path ++ [2]) (.int .u32)) := by simp [mFieldAddr, tSeat]
@[simp] theorem mField_tSeat_2 (vs : List AV) : mField tSeat (.node vs) 2 = if hasTys vs [tCipher, (.int .u8), (.int .u32)] then vs[2]? else none := rfl
def tInvite : Ty := (.struct [tCipher, (.int .u8), tCipher])
theorem tInvite_x : tInvite = (.struct [tCipher, (.int .u8), tCipher]) := rfl
@[simp] theorem hasTy_tInvite (vs : List AV) : hasTy (.node vs) tInvite = hasTys vs [tCipher, (.int .u8), tCipher] := rfl
@[simp] theorem size_tInvite : Ty.size tInvite = 129 := by rfl
@[simp] theorem mEq_tInvite (op : BinOp) (x y : AV) : mEq tInvite op x y = if hasTy x tInvite && hasTy y tInvite then (match op with | .eql => bnd (eqv x y) fun b => some (.bool b) | .neq => bnd (eqv x y) fun b => some (.bool !b) | _ => none) else none := rfl
@[simp] theorem hasTy_row_tInvite (vs : List AV) (n : Nat) : hasTy (.node vs) (.arr n tInvite) = (decide (vs.length = n) && hasTyAll vs tInvite) := rfl
@[simp] theorem mFieldAddr_tInvite_0 (b ver : Nat) (path : List Nat) : mFieldAddr tInvite (.ptr b ver path tInvite) 0 = some (.ptr b ver (path ++ [0]) tCipher) := by simp [mFieldAddr, tInvite]
@[simp] theorem mField_tInvite_0 (vs : List AV) : mField tInvite (.node vs) 0 = if hasTys vs [tCipher, (.int .u8), tCipher] then vs[0]? else none := rfl
@[simp] theorem mFieldAddr_tInvite_1 (b ver : Nat) (path : List Nat) : mFieldAddr tInvite (.ptr b ver path tInvite) 1 = some (.ptr b ver (path ++ [1]) (.int .u8)) := by simp [mFieldAddr, tInvite]
@[simp] theorem mField_tInvite_1 (vs : List AV) : mField tInvite (.node vs) 1 = if hasTys vs [tCipher, (.int .u8), tCipher] then vs[1]? else none := rfl
@[simp] theorem mFieldAddr_tInvite_2 (b ver : Nat) (path : List Nat) : mFieldAddr tInvite (.ptr b ver path tInvite) 2 = some (.ptr b ver (path ++ [2]) tCipher) := by simp [mFieldAddr, tInvite]
@[simp] theorem mField_tInvite_2 (vs : List AV) : mField tInvite (.node vs) 2 = if hasTys vs [tCipher, (.int .u8), tCipher] then vs[2]? else none := rfl
def tAsk : Ty := (.struct [tCipher, (.int .u32)])
theorem tAsk_x : tAsk = (.struct [tCipher, (.int .u32)]) := rfl
@[simp] theorem hasTy_tAsk (vs : List AV) : hasTy (.node vs) tAsk = hasTys vs [tCipher, (.int .u32)] := rfl
@[simp] theorem size_tAsk : Ty.size tAsk = 65 := by rfl
@[simp] theorem mEq_tAsk (op : BinOp) (x y : AV) : mEq tAsk op x y = if hasTy x tAsk && hasTy y tAsk then (match op with | .eql => bnd (eqv x y) fun b => some (.bool b) | .neq => bnd (eqv x y) fun b => some (.bool !b) | _ => none) else none := rfl
@[simp] theorem hasTy_row_tAsk (vs : List AV) (n : Nat) : hasTy (.node vs) (.arr n tAsk) = (decide (vs.length = n) && hasTyAll vs tAsk) := rfl
@[simp] theorem mFieldAddr_tAsk_0 (b ver : Nat) (path : List Nat) : mFieldAddr tAsk (.ptr b ver path tAsk) 0 = some (.ptr b ver (path ++ [0]) tCipher) := by simp [mFieldAddr, tAsk]
@[simp] theorem mField_tAsk_0 (vs : List AV) : mField tAsk (.node vs) 0 = if hasTys vs [tCipher, (.int .u32)] then vs[0]? else none := rfl
@[simp] theorem mFieldAddr_tAsk_1 (b ver : Nat) (path : List Nat) : mFieldAddr tAsk (.ptr b ver path tAsk) 1 = some (.ptr b ver (path ++ [1]) (.int .u32)) := by simp [mFieldAddr, tAsk]
@[simp] theorem mField_tAsk_1 (vs : List AV) : mField tAsk (.node vs) 1 = if hasTys vs [tCipher, (.int .u32)] then vs[1]? else none := rfl
def tBan : Ty := (.struct [tCipher, tCipher])
theorem tBan_x : tBan = (.struct [tCipher, tCipher]) := rfl
@[simp] theorem hasTy_tBan (vs : List AV) : hasTy (.node vs) tBan = hasTys vs [tCipher, tCipher] := rfl
@[simp] theorem size_tBan : Ty.size tBan = 128 := by rfl
@[simp] theorem mEq_tBan (op : BinOp) (x y : AV) : mEq tBan op x y = if hasTy x tBan && hasTy y tBan then (match op with | .eql => bnd (eqv x y) fun b => some (.bool b) | .neq => bnd (eqv x y) fun b => some (.bool !b) | _ => none) else none := rfl
@[simp] theorem hasTy_row_tBan (vs : List AV) (n : Nat) : hasTy (.node vs) (.arr n tBan) = (decide (vs.length = n) && hasTyAll vs tBan) := rfl
@[simp] theorem mFieldAddr_tBan_0 (b ver : Nat) (path : List Nat) : mFieldAddr tBan (.ptr b ver path tBan) 0 = some (.ptr b ver (path ++ [0]) tCipher) := by simp [mFieldAddr, tBan]
@[simp] theorem mField_tBan_0 (vs : List AV) : mField tBan (.node vs) 0 = if hasTys vs [tCipher, tCipher] then vs[0]? else none := rfl
@[simp] theorem mFieldAddr_tBan_1 (b ver : Nat) (path : List Nat) : mFieldAddr tBan (.ptr b ver path tBan) 1 = some (.ptr b ver (path ++ [1]) tCipher) := by simp [mFieldAddr, tBan]
@[simp] theorem mField_tBan_1 (vs : List AV) : mField tBan (.node vs) 1 = if hasTys vs [tCipher, tCipher] then vs[1]? else none := rfl
def tSignature : Ty := (.struct [(.arr 32 (.int .u8)), (.arr 32 (.int .u8))])
theorem tSignature_x : tSignature = (.struct [(.arr 32 (.int .u8)), (.arr 32 (.int .u8))]) := rfl
def tDelta : Ty := (.struct [.cell, tSignature])
theorem tDelta_x : tDelta = (.struct [.cell, tSignature]) := rfl
def tWriter : Ty := (.struct [.cell, (.int .i64)])
theorem tWriter_x : tWriter = (.struct [.cell, (.int .i64)]) := rfl
@[simp] theorem hasTy_tWriter (vs : List AV) : hasTy (.node vs) tWriter = hasTys vs [.cell, (.int .i64)] := rfl
@[simp] theorem size_tWriter : Ty.size tWriter = 2 := by rfl
@[simp] theorem mEq_tWriter (op : BinOp) (x y : AV) : mEq tWriter op x y = if hasTy x tWriter && hasTy y tWriter then (match op with | .eql => bnd (eqv x y) fun b => some (.bool b) | .neq => bnd (eqv x y) fun b => some (.bool !b) | _ => none) else none := rfl
@[simp] theorem hasTy_row_tWriter (vs : List AV) (n : Nat) : hasTy (.node vs) (.arr n tWriter) = (decide (vs.length = n) && hasTyAll vs tWriter) := rfl
@[simp] theorem mFieldAddr_tWriter_0 (b ver : Nat) (path : List Nat) : mFieldAddr tWriter (.ptr b ver path tWriter) 0 = some (.ptr b ver (path ++ [0]) .cell) := by simp [mFieldAddr, tWriter]
@[simp] theorem mField_tWriter_0 (vs : List AV) : mField tWriter (.node vs) 0 = if hasTys vs [.cell, (.int .i64)] then vs[0]? else none := rfl
@[simp] theorem mFieldAddr_tWriter_1 (b ver : Nat) (path : List Nat) : mFieldAddr tWriter (.ptr b ver path tWriter) 1 = some (.ptr b ver (path ++ [1]) (.int .i64)) := by simp [mFieldAddr, tWriter]
@[simp] theorem mField_tWriter_1 (vs : List AV) : mField tWriter (.node vs) 1 = if hasTys vs [.cell, (.int .i64)] then vs[1]? else none := rfl
def tLwriter : Ty := (.struct [tWriter])
theorem tLwriter_x : tLwriter = (.struct [tWriter]) := rfl
@[simp] theorem hasTy_tLwriter (vs : List AV) : hasTy (.node vs) tLwriter = hasTys vs [tWriter] := rfl
@[simp] theorem size_tLwriter : Ty.size tLwriter = 2 := by rfl
@[simp] theorem mEq_tLwriter (op : BinOp) (x y : AV) : mEq tLwriter op x y = if hasTy x tLwriter && hasTy y tLwriter then (match op with | .eql => bnd (eqv x y) fun b => some (.bool b) | .neq => bnd (eqv x y) fun b => some (.bool !b) | _ => none) else none := rfl
@[simp] theorem hasTy_row_tLwriter (vs : List AV) (n : Nat) : hasTy (.node vs) (.arr n tLwriter) = (decide (vs.length = n) && hasTyAll vs tLwriter) := rfl
@[simp] theorem mFieldAddr_tLwriter_0 (b ver : Nat) (path : List Nat) : mFieldAddr tLwriter (.ptr b ver path tLwriter) 0 = some (.ptr b ver (path ++ [0]) tWriter) := by simp [mFieldAddr, tLwriter]
@[simp] theorem mField_tLwriter_0 (vs : List AV) : mField tLwriter (.node vs) 0 = if hasTys vs [tWriter] then vs[0]? else none := rfl
def tLhas : Ty := (.struct [.cell, .cell, .cell, .cell, .cell, .cell])
theorem tLhas_x : tLhas = (.struct [.cell, .cell, .cell, .cell, .cell, .cell]) := rfl
@[simp] theorem hasTy_tLhas (vs : List AV) : hasTy (.node vs) tLhas = hasTys vs [.cell, .cell, .cell, .cell, .cell, .cell] := rfl
@[simp] theorem size_tLhas : Ty.size tLhas = 6 := by rfl
@[simp] theorem mEq_tLhas (op : BinOp) (x y : AV) : mEq tLhas op x y = if hasTy x tLhas && hasTy y tLhas then (match op with | .eql => bnd (eqv x y) fun b => some (.bool b) | .neq => bnd (eqv x y) fun b => some (.bool !b) | _ => none) else none := rfl
@[simp] theorem hasTy_row_tLhas (vs : List AV) (n : Nat) : hasTy (.node vs) (.arr n tLhas) = (decide (vs.length = n) && hasTyAll vs tLhas) := rfl
@[simp] theorem mFieldAddr_tLhas_0 (b ver : Nat) (path : List Nat) : mFieldAddr tLhas (.ptr b ver path tLhas) 0 = some (.ptr b ver (path ++ [0]) .cell) := by simp [mFieldAddr, tLhas]
@[simp] theorem mField_tLhas_0 (vs : List AV) : mField tLhas (.node vs) 0 = if hasTys vs [.cell, .cell, .cell, .cell, .cell, .cell] then vs[0]? else none := rfl
@[simp] theorem mFieldAddr_tLhas_1 (b ver : Nat) (path : List Nat) : mFieldAddr tLhas (.ptr b ver path tLhas) 1 = some (.ptr b ver (path ++ [1]) .cell) := by simp [mFieldAddr, tLhas]
@[simp] theorem mField_tLhas_1 (vs : List AV) : mField tLhas (.node vs) 1 = if hasTys vs [.cell, .cell, .cell, .cell, .cell, .cell] then vs[1]? else none := rfl
@[simp] theorem mFieldAddr_tLhas_2 (b ver : Nat) (path : List Nat) : mFieldAddr tLhas (.ptr b ver path tLhas) 2 = some (.ptr b ver (path ++ [2]) .cell) := by simp [mFieldAddr, tLhas]
@[simp] theorem mField_tLhas_2 (vs : List AV) : mField tLhas (.node vs) 2 = if hasTys vs [.cell, .cell, .cell, .cell, .cell, .cell] then vs[2]? else none := rfl
@[simp] theorem mFieldAddr_tLhas_3 (b ver : Nat) (path : List Nat) : mFieldAddr tLhas (.ptr b ver path tLhas) 3 = some (.ptr b ver (path ++ [3]) .cell) := by simp [mFieldAddr, tLhas]
@[simp] theorem mField_tLhas_3 (vs : List AV) : mField tLhas (.node vs) 3 = if hasTys vs [.cell, .cell, .cell, .cell, .cell, .cell] then vs[3]? else none := rfl
@[simp] theorem mFieldAddr_tLhas_4 (b ver : Nat) (path : List Nat) : mFieldAddr tLhas (.ptr b ver path tLhas) 4 = some (.ptr b ver (path ++ [4]) .cell) := by simp [mFieldAddr, tLhas]
@[simp] theorem mField_tLhas_4 (vs : List AV) : mField tLhas (.node vs) 4 = if hasTys vs [.cell, .cell, .cell, .cell, .cell, .cell] then vs[4]? else none := rfl
@[simp] theorem mFieldAddr_tLhas_5 (b ver : Nat) (path : List Nat) : mFieldAddr tLhas (.ptr b ver path tLhas) 5 = some (.ptr b ver (path ++ [5]) .cell) := by simp [mFieldAddr, tLhas]
@[simp] theorem mField_tLhas_5 (vs : List AV) : mField tLhas (.node vs) 5 = if hasTys vs [.cell, .cell, .cell, .cell, .cell, .cell] then vs[5]? else none := rfl
def tMove : Ty := (.struct [(.arr 32 (.int .u8)), tAction])
theorem tMove_x : tMove = (.struct [(.arr 32 (.int .u8)), tAction]) := rfl
def tLstep : Ty := (.struct [.cell, (.arr 32 (.int .u8)), tAction, (.int .u8)])
theorem tLstep_x : tLstep = (.struct [.cell, (.arr 32 (.int .u8)), tAction, (.int .u8)]) := rfl
def tRollSeat : Ty := (.struct [.cell, .cell])
theorem tRollSeat_x : tRollSeat = (.struct [.cell, .cell]) := rfl
def tRollInvite : Ty := (.struct [.cell, .cell])
theorem tRollInvite_x : tRollInvite = (.struct [.cell, .cell]) := rfl
def tRollAsk : Ty := (.struct [.cell, .cell])
theorem tRollAsk_x : tRollAsk = (.struct [.cell, .cell]) := rfl
def tRollBan : Ty := (.struct [.cell, .cell])
theorem tRollBan_x : tRollBan = (.struct [.cell, .cell]) := rfl
end Go.Vab

/-
  A call within a statement whose order is open: tables of contracts.
-/
namespace Go.Vab
open Go
theorem still_ne (call : Calling) (k : Nat) (c : List AV → Heap → Option (AV × Heap)) {f : Nat} (args : List AV) (h : Heap) (hf : f ≠ k) : still (addC call k c) f args h = still call f args h := by
  have e : addC call k c f args = call f args := funext fun h => addC_ne call k c args h hf
  unfold still
  rw [e]
end Go.Vab

/-
  Rows of bytes and slices of them; memory of which one block is kept.
-/
namespace Go.Vab
open Go

theorem arr0 (g : Nat → BitVec 8) : arr 0 g = arr 0 fun _ => 0#8 := arr_congr fun i hi => absurd hi (by omega)
@[simp] theorem arr_join (n m : Nat) (g f : Nat → BitVec 8) : (arr n g).join (arr m f) = some (arr (n + m) fun i => if i < n then g i else f (i - n)) := by
  simp only [arr, bytes, AV.join, if_true]
  congr 2
  rw [← List.map_append]
  congr 1
  apply List.ext_getElem?
  intro i
  rw [List.getElem?_append, range_map_getD, range_map_getD, range_map_getD, List.length_map, List.length_range]
  by_cases h : i < n
  · simp [h, show i < n + m by omega]
  · by_cases h2 : i - n < m
    · simp [h, h2, show i < n + m by omega]
    · simp [h, h2, show ¬ i < n + m by omega]
@[simp] theorem arr_splice (m n off k : Nat) (f g : Nat → BitVec 8) : (arr m f).splice off k (arr n g) = if off + k ≤ m ∧ k ≤ n then some (arr m fun i => if off ≤ i ∧ i < off + k then g (i - off) else f i) else none := by
  simp only [arr, bytes, AV.splice, List.length_map, List.length_range, true_and]
  by_cases hc : off + k ≤ m ∧ k ≤ n
  · rw [if_pos hc, if_pos hc]
    congr 2
    simp only [← List.map_take, ← List.map_drop]
    rw [← List.map_append, ← List.map_append]
    congr 1
    simp only [List.map_take, List.map_drop]
    apply List.ext_getElem?
    intro i
    rw [range_map_getD, List.append_assoc, List.getElem?_append, List.getElem?_append]
    simp only [List.length_take, List.length_map, List.length_range, List.getElem?_take, List.getElem?_drop, range_map_getD]
    obtain ⟨h1, h2⟩ := hc
    rw [Nat.min_eq_left (by omega : off ≤ m), Nat.min_eq_left h2]
    by_cases a1 : i < off
    · simp [a1, show i < m by omega, show ¬ off ≤ i by omega]
    · by_cases a2 : i < off + k
      · have : i - off < k := by omega
        simp [a1, a2, this, show i < m by omega, show off ≤ i by omega, show i - off < n by omega]
      · have a3 : ¬ i - off < k := by omega
        have a4 : off + k + (i - off - k) = i := by omega
        simp [a1, a2, a3, a4, show off ≤ i by omega]
  · rw [if_neg hc, if_neg hc]

@[simp] theorem ite_and {α : Type} {a b c d : Nat} (x y : α) (h : a ≤ b ∧ c ≤ d) : (if a ≤ b ∧ c ≤ d then x else y) = x := if_pos h

theorem get_append : ∀ (p : List Nat) (v : AV) (q : List Nat), v.get (p ++ q) = bnd (v.get p) fun r => r.get q
  | [], v, q => by simp
  | j :: p, .node vs, q => by
    simp only [List.cons_append, get_node]
    cases vs[j]? with
    | none => rfl
    | some v => simp only [bnd_some]; exact get_append p v q
  | j :: p, .ints k xs, q => by
    simp only [List.cons_append, AV.get]
    cases p with
    | nil =>
      cases q with
      | nil =>
        simp only [List.nil_append]
        cases xs[j]? <;> simp
      | cons a q =>
        simp only [List.nil_append]
        cases xs[j]? <;> simp [AV.get]
    | cons a p => simp
  | j :: p, .junk, q | j :: p, .undef, q | j :: p, .bool _, q | j :: p, .int _ _, q | j :: p, .str _, q | j :: p, .nilptr, q | j :: p, .ptr .., q | j :: p, .win .., q | j :: p, .nilslice, q | j :: p, .slice .., q
  | j :: p, .nilmap, q | j :: p, .map _, q | j :: p, .nilfn, q | j :: p, .fn .., q | j :: p, .tuple _, q => by simp [AV.get]

def slOk : AV → Nat → Prop
  | .nilslice, n => n = 0
  | .slice _ ver _ t off len none, n => len = n ∧ off + len ≤ ver ∧ t = .int .u8
  | .slice _ _ _ t _ len (some c), n => len = n ∧ len ≤ c ∧ t = .int .u8
  | _, _ => False

/-- A slice of bytes, and what it holds. -/
def Byt (h : Heap) (x : AV) (n : Nat) (g : Nat → BitVec 8) : Prop := mElems (.int .u8) x h = some (arr n g) ∧ slOk x n

theorem Byt.app {h : Heap} {x : AV} {n : Nat} {g : Nat → BitVec 8} (hb : Byt h x n g) (t : Heap) : Byt (h ++ t) x n g := ⟨mElems_app hb.1 t, hb.2⟩
theorem Byt.elems {h : Heap} {x : AV} {n : Nat} {g : Nat → BitVec 8} (hb : Byt h x n g) (t : Heap) : mElems (.int .u8) x (h ++ t) = some (arr n g) := (hb.app t).1
theorem Byt.len {h : Heap} {x : AV} {n : Nat} {g : Nat → BitVec 8} (hb : Byt h x n g) : mLenS x = some (nat n) := by
  obtain ⟨_, h2⟩ := hb
  unfold slOk at h2
  split at h2
  · subst h2; rfl
  · rw [← h2.1]; rfl
  · rw [← h2.1]; rfl
  · cases h2
theorem arr_len_inj {n m : Nat} {g f : Nat → BitVec 8} (h : arr n g = arr m f) : n = m := by
  have := congrArg AV.rowLen h
  simpa using this
theorem Byt.det {h : Heap} {x : AV} {n m : Nat} {g f : Nat → BitVec 8} (hb : Byt h x n g) (hc : Byt h x m f) : n = m ∧ ∀ i, i < n → g i = f i := by
  have e : arr n g = arr m f := Option.some.inj (hb.1.symm.trans hc.1)
  have := arr_len_inj e
  subst this
  exact ⟨rfl, arr_inj.1 e⟩
theorem Byt.congr {h : Heap} {x : AV} {n : Nat} {g f : Nat → BitVec 8} (hb : Byt h x n g) (e : ∀ i, i < n → g i = f i) : Byt h x n f := ⟨by rw [hb.1, arr_congr e], hb.2⟩
theorem Byt.nil (h : Heap) (g : Nat → BitVec 8) : Byt h .nilslice 0 g := ⟨by simp [mElems, arr, bytes], rfl⟩
theorem mElems_slc {i ver : Nat} {path : List Nat} {off len : Nat} {cap : Option Nat} {h : Heap} : mElems (.int .u8) (.slice i ver path (.int .u8) off len cap) h = bnd (blkAt h i ver) fun b => bnd (b.v.get path) fun r => r.cut off len := by simp [mElems]

theorem cut_ints {r : AV} {off len n : Nat} {g : Nat → BitVec 8} (h : r.cut off len = some (arr n g)) : n = len ∧ ∀ i, i < n → r.get [off + i] = some (u8 (g i)) := by
  cases r <;> simp only [AV.cut] at h <;> try (cases h; done)
  case ints k xs =>
    split at h
    · rename_i hl
      simp only [Option.some.injEq, arr, bytes, AV.ints.injEq] at h
      obtain ⟨hk, hx⟩ := h
      have hn : n = len := by
        have := congrArg List.length hx
        simp at this; omega
      refine ⟨hn, fun i hi => ?_⟩
      have := congrArg (fun l => l[i]?) hx
      simp only [List.getElem?_take, List.getElem?_drop, List.map_map, if_pos (show i < len by omega)] at this
      simp only [AV.get, this, List.getElem?_map, List.getElem?_range hi, Option.map_some]
      rw [hk]; rfl
    · cases h
  case node vs =>
    split at h
    · simp [arr, bytes] at h
    · cases h

theorem Byt.idx {h : Heap} {x : AV} {n : Nat} {g : Nat → BitVec 8} (hb : Byt h x n g) {i : Nat} (hi : i < n) : ∃ p, mIdxS (.int .u8) x (nat i) = some p ∧ mLoad (.int .u8) p h = some (u8 (g i)) ∧ ∀ t, mLoad (.int .u8) p (h ++ t) = some (u8 (g i)) := by
  have key : ∀ b ver path off len cap, x = .slice b ver path (.int .u8) off len cap → len = n → ∃ p, mIdxS (.int .u8) x (nat i) = some p ∧ mLoad (.int .u8) p h = some (u8 (g i)) ∧ ∀ t, mLoad (.int .u8) p (h ++ t) = some (u8 (g i)) := by
    rintro b ver path off len cap rfl rfl
    obtain ⟨h1, h2⟩ := hb
    rw [mElems_slc] at h1
    obtain ⟨bb, e1, e2⟩ := bnd_eq_some.1 h1
    obtain ⟨r, e3, e4⟩ := bnd_eq_some.1 e2
    have hl : mLoad (.int .u8) (.ptr b ver (path ++ [off + i]) (.int .u8)) h = some (u8 (g i)) := by
      rw [mLoad_ptr, e1, bnd_some, get_append, e3, bnd_some]
      exact (cut_ints e4).2 i hi
    exact ⟨.ptr b ver (path ++ [off + i]) (.int .u8), by simp [mIdxS, hi], hl, fun t => mLoad_app hl t⟩
  have h2 := hb.2
  unfold slOk at h2
  split at h2
  · omega
  · obtain ⟨e1, _, e3⟩ := h2; subst e3; exact key _ _ _ _ _ _ rfl e1
  · obtain ⟨e1, _, e3⟩ := h2; subst e3; exact key _ _ _ _ _ _ rfl e1
  · cases h2

theorem Byt.sub {h : Heap} {b ver : Nat} {path : List Nat} {off len n : Nat} {cap : Option Nat} {g : Nat → BitVec 8} (hb : Byt h (.slice b ver path (.int .u8) off len cap) n g) {l k : Nat} (hk : l + k ≤ n) :
    mElems (.int .u8) (.slice b ver path (.int .u8) (off + l) k (cap.map (· - l))) h = some (arr k fun i => g (l + i)) := by
  have h1 := hb.1
  rw [mElems_slc] at h1 ⊢
  obtain ⟨bb, e1, e2⟩ := bnd_eq_some.1 h1
  obtain ⟨r, e3, e4⟩ := bnd_eq_some.1 e2
  rw [e1, bnd_some, e3, bnd_some]
  cases r <;> simp only [AV.cut] at e4 <;> try (cases e4; done)
  case ints q xs =>
    split at e4
    · rename_i hl
      have hn := (cut_ints (r := .ints q xs) (off := off) (len := len) (by simp only [AV.cut]; rw [if_pos hl]; exact e4)).1
      simp only [AV.cut]
      rw [if_pos (by omega)]
      simp only [Option.some.injEq, arr, bytes, AV.ints.injEq] at e4 ⊢
      refine ⟨e4.1, ?_⟩
      have := congrArg (fun z => (z.drop l).take k) e4.2
      simp only [List.drop_take, List.drop_drop, List.take_take] at this
      rw [show min k (len - l) = k by omega] at this
      rw [this]
      apply List.ext_getElem?
      intro i
      simp only [List.getElem?_take, List.getElem?_drop, List.getElem?_map]
      by_cases hi : i < k
      · rw [if_pos hi, List.getElem?_range hi, List.getElem?_range (by omega)]; rfl
      · rw [if_neg hi, List.getElem?_eq_none (l := List.range k) (by simpa using hi)]; rfl
    · cases e4
  case node vs =>
    split at e4
    · simp [arr, bytes] at e4
    · cases e4

theorem Byt.from {h : Heap} {x : AV} {n : Nat} {g : Nat → BitVec 8} (hb : Byt h x n g) {l : Nat} (hl : l ≤ n) : ∃ y, mSliceS (.int .u8) x (some (nat l)) none none = some y ∧ Byt h y (n - l) fun i => g (l + i) := by
  have h2 := hb.2
  unfold slOk at h2
  split at h2
  · subst h2
    have : l = 0 := by omega
    subst this
    exact ⟨.nilslice, by simp [mSliceS, optBound, mBound], Byt.nil _ _⟩
  · obtain ⟨e1, e2, e3⟩ := h2; subst e3; subst e1
    rename_i i ver p off len
    refine ⟨.slice i ver p (.int .u8) (off + l) (len - l) none, ?_, ⟨hb.sub (by omega), by show _ ∧ _ ∧ _; exact ⟨rfl, by omega, rfl⟩⟩⟩
    simp [mSliceS, optBound, mBound, hl]
  · obtain ⟨e1, e2, e3⟩ := h2; subst e3; subst e1
    rename_i i ver p off len c
    refine ⟨.slice i ver p (.int .u8) (off + l) (len - l) (some (c - l)), ?_, ⟨hb.sub (by omega), by show _ ∧ _ ∧ _; exact ⟨rfl, by omega, rfl⟩⟩⟩
    simp [mSliceS, optBound, mBound, hl]
  · cases h2

theorem Byt.upto {h : Heap} {x : AV} {n : Nat} {g : Nat → BitVec 8} (hb : Byt h x n g) {l : Nat} (hl : l ≤ n) : ∃ y, mSliceS (.int .u8) x none (some (nat l)) none = some y ∧ Byt h y l g := by
  have h2 := hb.2
  unfold slOk at h2
  split at h2
  · subst h2
    have : l = 0 := by omega
    subst this
    exact ⟨.nilslice, by simp [mSliceS, optBound, mBound], Byt.nil _ _⟩
  · obtain ⟨e1, e2, e3⟩ := h2; subst e3; subst e1
    rename_i i ver p off len
    refine ⟨.slice i ver p (.int .u8) off l none, ?_, ⟨by simpa using hb.sub (l := 0) (k := l) (by omega), by show _ ∧ _ ∧ _; exact ⟨rfl, by omega, rfl⟩⟩⟩
    simp [mSliceS, optBound, mBound, show l ≤ ver - off by omega]
  · obtain ⟨e1, e2, e3⟩ := h2; subst e3; subst e1
    rename_i i ver p off len c
    refine ⟨.slice i ver p (.int .u8) off l (some c), ?_, ⟨by simpa using hb.sub (l := 0) (k := l) (by omega), by show _ ∧ _ ∧ _; exact ⟨rfl, by omega, rfl⟩⟩⟩
    simp [mSliceS, optBound, mBound, show l ≤ c by omega]
  · cases h2

/-- A slice of an array of one's own. -/
@[simp] theorem mSliceA_all (n : Nat) (u : Ty) (b ver : Nat) (path : List Nat) : mSliceA (.arr n u) (.ptr b ver path (.arr n u)) none none none = some (.slice b ver path u 0 n (some n)) := by simp [mSliceA, optBound]
@[simp] theorem mSliceA_from (n : Nat) (u : Ty) (b ver : Nat) (path : List Nat) (l : Nat) : mSliceA (.arr n u) (.ptr b ver path (.arr n u)) (some (nat l)) none none = if l ≤ n then some (.slice b ver path u l (n - l) (some (n - l))) else none := by
  by_cases h : l ≤ n <;> simp [mSliceA, optBound, mBound, h]
@[simp] theorem mSliceA_upto (n : Nat) (u : Ty) (b ver : Nat) (path : List Nat) (k : Nat) : mSliceA (.arr n u) (.ptr b ver path (.arr n u)) none (some (nat k)) none = if k ≤ n then some (.slice b ver path u 0 k (some n)) else none := by
  by_cases h : k ≤ n <;> simp [mSliceA, optBound, mBound, h]

theorem mCopy_own {h : Heap} {x : AV} {n m : Nat} {g f : Nat → BitVec 8} {i ver off len : Nat} {cap : Option Nat} {b : Blk} (hx : mElems (.int .u8) x h = some (arr n g)) (hb : blkAt h i ver = some b) (hv : b.v = arr m f) (hm : b.mode ≠ .ro) (hl : off + len ≤ m) :
    mCopy (.int .u8) (.slice i ver [] (.int .u8) off len cap) x h = some (nat (min n len), h.set i { b with v := arr m fun j => if off ≤ j ∧ j < off + min n len then g (j - off) else f j }) := by
  simp only [mCopy, hx, bnd_some, arr_rowLen, Ty.beq_self, if_true, hb, if_neg hm, hv, get_nil, arr_splice, put_nil]
  rw [if_pos ⟨by omega, by omega⟩]
  rfl

/-- Bytes as a string. -/
def strOf (n : Nat) (g : Nat → BitVec 8) : ByteArray := ⟨((List.range n).map fun i => UInt8.ofNat (g i).toNat).toArray⟩
theorem strOf_congr {n : Nat} {g f : Nat → BitVec 8} (h : ∀ i, i < n → g i = f i) : strOf n g = strOf n f := by
  unfold strOf
  congr 2
  exact List.map_congr_left fun i hi => by rw [h i (List.mem_range.1 hi)]
theorem Byt.str {h : Heap} {x : AV} {n : Nat} {g : Nat → BitVec 8} (hb : Byt h x n g) : mStr x h = some (.str (strOf n g)) := by
  have key : ∀ y : AV, (∀ s, y ≠ .str s) → mElems (.int .u8) y h = some (arr n g) → mStr y h = some (.str (strOf n g)) := by
    intro y hy he
    unfold mStr
    split
    · exact absurd rfl (hy _)
    · rw [he]
      simp only [bnd_some, arr, bytes, strOf, List.map_map]
      congr 5
  refine key x ?_ hb.1
  intro s e
  have h2 := hb.2
  rw [e] at h2
  exact h2
theorem Byt.strT {h : Heap} {x : AV} {n : Nat} {g : Nat → BitVec 8} (hb : Byt h x n g) (t : Heap) : mStr x (h ++ t) = some (.str (strOf n g)) := (hb.app t).str
theorem strOf_inj {n m : Nat} {g f : Nat → BitVec 8} (h : strOf n g = strOf m f) : n = m ∧ ∀ i, i < n → g i = f i := by
  unfold strOf at h
  have h1 : (List.range n).map (fun i => UInt8.ofNat (g i).toNat) = (List.range m).map fun i => UInt8.ofNat (f i).toNat := by
    have := congrArg ByteArray.data h
    simpa using this
  have hn : n = m := by simpa using congrArg List.length h1
  subst hn
  refine ⟨rfl, fun i hi => ?_⟩
  have := congrArg (fun l => l[i]?) h1
  rw [range_map_getD, range_map_getD, if_pos hi, if_pos hi, Option.some.injEq] at this
  have h3 := congrArg UInt8.toNat this
  have q : ∀ x : BitVec 8, (UInt8.ofNat x.toNat).toNat = x.toNat := fun x => by simp
  rw [q, q] at h3
  exact BitVec.eq_of_toNat_eq h3

/-! Memory of which one block is kept. -/
def Gh.pull (E : Gh) (n j : Nat) : Gh where
  n := n + 1
  blk i := if i = n then E.blk j else E.blk i
  base i := if i = n then E.base j else E.base i
  room i := if i = n then E.room j else E.room i
  ver i := if i = n then E.ver j else E.ver i
  many i := if i = n then E.many j else E.many i
  ty i := if i = n then E.ty j else E.ty i

theorem Gh.pull_ext (E : Gh) (n j : Nat) : Ext (E.cut n) (E.pull n j) := by
  have ne : ∀ i, i < n → i ≠ n := fun i hi => by omega
  refine ⟨Nat.le_succ _, fun i hi => ?_, fun i hi => ?_, fun i hi => ?_, fun i hi _ => ?_⟩
  · simp only [Gh.pull, if_neg (ne i hi)]; exact Nat.le_refl _
  · simp only [Gh.pull, if_neg (ne i hi)]; rfl
  · simp only [Gh.pull, if_neg (ne i hi)]; rfl
  · simp only [Gh.pull, if_neg (ne i hi)]; exact ⟨rfl, rfl, rfl⟩

theorem Moves.pull {E E' : Gh} {h t : Heap} {w w' : World} {j : Nat} {b : Blk} (R : RelHeap E h w) (m : Moves E h w E' (h ++ t) w') (hj : t[j]? = some b) (hb : ∃ k xs, b.v = .ints k xs) :
    Moves E h w (E'.pull h.length (h.length + j)) (h ++ [b]) w' := by
  have get : ∀ i c, h[i]? = some c → (h ++ t)[i]? = some c := fun i c hi => by
    rw [List.getElem?_append_left (List.getElem?_eq_some_iff.1 hi).1]; exact hi
  have getb : (h ++ t)[h.length + j]? = some b := by rw [List.getElem?_append_right (by omega)]; simpa using hj
  have spl : ∀ i c, (h ++ [b])[i]? = some c → (i < h.length ∧ h[i]? = some c) ∨ (i = h.length ∧ c = b) := by
    intro i c hi
    rw [List.getElem?_append] at hi
    split at hi
    · exact .inl ⟨by assumption, hi⟩
    · right
      have hl := (List.getElem?_eq_some_iff.1 hi).1
      simp at hl
      have : i = h.length := by omega
      subst this
      simp at hi
      exact ⟨rfl, hi.symm⟩
  have src : ∀ i c, (h ++ [b])[i]? = some c → ∃ i', (h ++ t)[i']? = some c ∧ (E'.pull h.length (h.length + j)).blk i = E'.blk i' ∧ (E'.pull h.length (h.length + j)).room i = E'.room i' ∧ ((i < h.length ∧ i' = i) ∨ (i = h.length ∧ i' = h.length + j)) := by
    intro i c hi
    rcases spl i c hi with ⟨h1, h2⟩ | ⟨h1, h2⟩
    · exact ⟨i, get i c h2, by simp [Gh.pull, show i ≠ h.length by omega], by simp [Gh.pull, show i ≠ h.length by omega], .inl ⟨h1, rfl⟩⟩
    · subst h1; subst h2
      exact ⟨h.length + j, getb, by simp [Gh.pull], by simp [Gh.pull], .inr ⟨rfl, rfl⟩⟩
  refine ⟨⟨?_, fun i hi => ?_, fun i hi => ?_, fun i hi => ?_, fun i hi he => ?_⟩, ⟨?_, fun i c hi => ?_, fun i k c d hi hk hp ho he => ?_⟩, m.size, m.keep, fun x hx => ?_, m.io⟩
  · show E.n ≤ h.length + 1; rw [R.n]; omega
  · rw [R.n] at hi; simp only [Gh.pull, if_neg (show i ≠ h.length by omega)]; exact m.ext.ver i (by rw [R.n]; exact hi)
  · rw [R.n] at hi; simp only [Gh.pull, if_neg (show i ≠ h.length by omega)]; exact m.ext.many i (by rw [R.n]; exact hi)
  · rw [R.n] at hi; simp only [Gh.pull, if_neg (show i ≠ h.length by omega)]; exact m.ext.ty i (by rw [R.n]; exact hi)
  · have hi' := hi
    rw [R.n] at hi
    simp only [Gh.pull, if_neg (show i ≠ h.length by omega)] at he ⊢
    exact m.ext.same i hi' he
  · simp [Gh.pull]
  · rcases spl i c hi with ⟨h1, h2⟩ | ⟨h1, h2⟩
    · have ne : i ≠ h.length := by omega
      have q := m.rel.at_ i c (get i c h2)
      have hu : c.v.under h.length = true := by
        have := (R.at_ i c h2).under
        rw [R.n] at this; exact this
      refine ⟨by simp only [Gh.pull, if_neg ne]; exact q.ver, ?_, fun hm => (q.mp hm).ghost (by simp only [Gh.pull, if_neg ne]) (by simp only [Gh.pull, if_neg ne]) (by simp only [Gh.pull, if_neg ne]), fun hm => ?_, ?_⟩
      · have := q.fits; unfold Fits at this ⊢; simp only [Gh.pull, if_neg ne]; exact this
      · obtain ⟨l, b1, b2, b3⟩ := q.body hm
        refine ⟨l, VRl.mono (Gh.pull_ext _ _ _) _ _ (VRl.cut _ _ hu b1), ?_, ?_⟩
        · have := b2; unfold Placed at this ⊢; simp only [Gh.pull, if_neg ne]; exact this
        · have := b3; unfold Placed at this ⊢; simp only [Gh.pull, if_neg ne]; exact this
      · simp only [Gh.pull, if_neg ne]; exact q.grow
    · subst h1; subst h2
      have q := m.rel.at_ _ _ getb
      obtain ⟨k, xs, hv⟩ := hb
      refine ⟨by simp only [Gh.pull, if_true]; exact q.ver, ?_, fun hm => (by obtain ⟨ks, es, clock, e, _⟩ := q.mp hm; rw [hv] at e; cases e), fun hm => ?_, ?_⟩
      · have := q.fits; unfold Fits at this ⊢; simp only [Gh.pull, if_true]; exact this
      · obtain ⟨l, b1, b2, b3⟩ := q.body hm
        refine ⟨l, ?_, ?_, ?_⟩
        · rw [hv] at b1 ⊢; simpa only [VRl] using b1
        · have := b2; unfold Placed at this ⊢; simp only [Gh.pull, if_true]; exact this
        · have := b3; unfold Placed at this ⊢; simp only [Gh.pull, if_true]; exact this
      · simp only [Gh.pull, if_true]; exact q.grow
  · obtain ⟨i', a1, a2, a3, a4⟩ := src i c hi
    obtain ⟨k', c1, c2, c3, c4⟩ := src k d hk
    have hp' : Placed E' i' c := by unfold Placed at hp ⊢; rw [← a3]; exact hp
    have ho' : Own E' k' d := ⟨ho.1, by have := ho.2; unfold Placed at this ⊢; rw [← c3]; exact this⟩
    have := m.rel.inj i' k' c d a1 c1 hp' ho' (by rw [← a2, ← c2]; exact he)
    rcases a4 with ⟨a5, a6⟩ | ⟨a5, a6⟩ <;> rcases c4 with ⟨c5, c6⟩ | ⟨c5, c6⟩ <;> omega
  · obtain ⟨i, c, hi, ho, he⟩ := hx
    obtain ⟨i', a1, a2, a3, a4⟩ := src i c hi
    exact m.img x ⟨i', c, a1, ⟨ho.1, by have := ho.2; unfold Placed at this ⊢; rw [← a3]; exact this⟩, by rw [← a2]; exact he⟩

theorem SlcAt.pull {E : Gh} {n j ver : Nat} {path : List Nat} {t : Ty} {off len : Nat} {cap : Option Nat} {a : Addr} {c : Nat} (h : SlcAt E j ver path t off len cap a c) : SlcAt (E.pull n j) n ver path t off len cap a c := by
  obtain ⟨_, h2, h3, h4, h5, h6⟩ := h
  refine ⟨Nat.lt_succ_self _, by simp only [Gh.pull, if_true]; exact h2, h3, h4, h5, fun hv => ?_⟩
  simp only [Gh.pull, if_true] at hv ⊢
  exact h6 hv

section
variable {P : Program} {f : Nat} {args : List AV} {h : Heap} {ver : Nat} {path : List Nat} {ty : Ty} {off len : Nat} {cap : Option Nat}
theorem Spec.pull (t : Heap) (j : Nat) (b : Blk) (hs : Spec P f args h (.slice (h.length + j) ver path ty off len cap) (h ++ t)) (hj : t[j]? = some b) (hb : ∃ k xs, b.v = .ints k xs) :
    Spec P f args h (.slice h.length ver path ty off len cap) (h ++ [b]) := by
  intro E w xs R hxs
  refine (hs E w xs R hxs).mono fun e w' hp => ?_
  obtain ⟨E', x, rfl, h1, h2⟩ := hp
  refine ⟨E'.pull h.length (h.length + j), x, rfl, ?_, h2.pull R hj hb⟩
  simp only [VRel] at h1 ⊢
  obtain ⟨a, c, e, hp⟩ := h1
  exact ⟨a, c, e, hp.pull⟩
theorem Spec.pullT (t : Heap) (j : Nat) (b : Blk) {k : IntKind} {n : Int} (hs : Spec P f args h (.tuple [.slice (h.length + j) ver path ty off len cap, .int k n]) (h ++ t)) (hj : t[j]? = some b) (hb : ∃ k xs, b.v = .ints k xs) :
    Spec P f args h (.tuple [.slice h.length ver path ty off len cap, .int k n]) (h ++ [b]) := by
  intro E w xs R hxs
  refine (hs E w xs R hxs).mono fun e w' hp => ?_
  obtain ⟨E', x, rfl, h1, h2⟩ := hp
  refine ⟨E'.pull h.length (h.length + j), x, rfl, ?_, h2.pull R hj hb⟩
  simp only [VRel, VRc] at h1 ⊢
  obtain ⟨ys, e, y1, ys1, e1, ⟨a, c, e2, hp⟩, y2, ys2, e3, e4, e5⟩ := h1
  exact ⟨ys, e, y1, ys1, e1, ⟨a, c, e2, hp.pull⟩, y2, ys2, e3, e4, e5⟩
end

/-- A contract whose arguments say what lies in memory. -/
theorem conC_eqP {α : Type} {enc : α → List AV} {P : α → Heap → Prop} {f : α → Heap → AV × Heap} (inj : ∀ a b h, P a h → P b h → enc a = enc b → f a h = f b h) {a : α} {h : Heap} (hp : P a h) : conC enc P f (enc a) h = some (f a h) := by
  have hx : ∃ b, enc b = enc a ∧ P b h := ⟨a, rfl, hp⟩
  unfold conC
  rw [dif_pos hx]
  congr 1
  exact inj _ _ h hx.choose_spec.2 hp hx.choose_spec.1

end Go.Vab

/-
  The data of the layers, and how they lie in memory.
-/
namespace Go.Vab
open Go

@[simp] theorem eqv_u8 (x y : BitVec 8) : eqv (u8 x) (u8 y) = some (decide (x = y)) := by
  simp only [eqv, u8, if_true]
  congr 1
  by_cases h : x = y
  · subst h; simp
  · have : ¬ ((x.toNat : Int) = (y.toNat : Int)) := fun e => h (BitVec.eq_of_toNat_eq (by omega))
    simp [h, this]

/-- Bytes. -/
abbrev Bs := List (BitVec 8)
def Bs.g (l : Bs) (i : Nat) : BitVec 8 := l.getD i 0#8

/-- A handle: 32 bytes. -/
structure Pt where
  l : Bs
  h : l.length = 32
  deriving DecidableEq
def Pt.g (p : Pt) : Nat → BitVec 8 := Bs.g p.l
def pt (p : Pt) : AV := arr 32 p.g

theorem bs_ext {a b : Bs} (hl : a.length = b.length) (h : ∀ i, i < a.length → a.g i = b.g i) : a = b := by
  apply List.ext_getElem? 
  intro i
  by_cases hi : i < a.length
  · have := h i hi
    unfold Bs.g at this
    rw [List.getD_eq_getElem?_getD, List.getD_eq_getElem?_getD, List.getElem?_eq_getElem hi, List.getElem?_eq_getElem (by omega)] at this
    rw [List.getElem?_eq_getElem hi, List.getElem?_eq_getElem (by omega)]
    simpa using this
  · rw [List.getElem?_eq_none (by omega), List.getElem?_eq_none (by omega)]
theorem Pt.ext' {p q : Pt} (h : p.l = q.l) : p = q := by cases p; cases q; simp at h; subst h; rfl
theorem Pt.eq_iff {p q : Pt} : p = q ↔ ∀ i, i < 32 → p.g i = q.g i := by
  constructor
  · rintro rfl _ _; rfl
  · intro h
    exact Pt.ext' (bs_ext (by rw [p.h, q.h]) fun i hi => h i (by rw [p.h] at hi; exact hi))
@[simp] theorem arrEq_pt (p q : Pt) : arrEq 32 p.g q.g = decide (p = q) := by
  rw [Bool.eq_iff_iff, arrEq_iff, decide_eq_true_eq, Pt.eq_iff]
def Pt.of (f : Nat → BitVec 8) : Pt := ⟨(List.range 32).map f, by simp⟩
@[simp] theorem Pt.of_g (f : Nat → BitVec 8) {i : Nat} (h : i < 32) : (Pt.of f).g i = f i := by
  simp [Pt.of, Pt.g, Bs.g, List.getD_eq_getElem?_getD, h]
theorem arr_pt (f : Nat → BitVec 8) : arr 32 f = pt (Pt.of f) := arr_congr fun i hi => (Pt.of_g f hi).symm
@[simp] theorem Pt.of_self (p : Pt) : Pt.of p.g = p := Pt.eq_iff.2 fun i hi => Pt.of_g _ hi
@[simp] theorem hasTy_pt (p : Pt) (k : Nat) : hasTy (pt p) (.arr k (.int .u8)) = decide (32 = k) := hasTy_arr _ _ _
@[simp] theorem mEq_pt (p q : Pt) : mEq (.arr 32 (.int .u8)) .eql (pt p) (pt q) = some (.bool (decide (p = q))) := by
  unfold pt; rw [mEq_arr, arrEq_pt]
@[simp] theorem mNe_pt (p q : Pt) : mEq (.arr 32 (.int .u8)) .neq (pt p) (pt q) = some (.bool (!decide (p = q))) := by
  unfold pt; rw [mNe_arr, arrEq_pt]
@[simp] theorem eqv_pt (p q : Pt) : eqv (pt p) (pt q) = some (decide (p = q)) := by
  unfold pt; rw [eqv_arr2, arrEq_pt]
theorem pt_inj {p q : Pt} : pt p = pt q ↔ p = q := by
  unfold pt; rw [arr_inj, Pt.eq_iff]
@[simp] theorem pt_ne_int (p : Pt) (k : IntKind) (n : Int) : pt p ≠ .int k n := by simp [pt, arr, bytes]
def pt0 : Pt := Pt.of fun _ => 0#8
@[simp] theorem arr_zero : arr 32 (fun _ => 0#8) = pt pt0 := arr_pt _

structure Ci where
  e : Pt
  f : Pt
  deriving DecidableEq
structure Seat where
  who : Ci
  role : BitVec 8
  joined : BitVec 32
  deriving DecidableEq
structure Inv where
  who : Ci
  role : BitVec 8
  by_ : Ci
  deriving DecidableEq
structure Ask where
  who : Ci
  at_ : BitVec 32
  deriving DecidableEq
structure Ban where
  who : Ci
  by_ : Ci
  deriving DecidableEq
structure Acc where
  title : BitVec 8
  members : BitVec 8
  link : BitVec 8
  deriving DecidableEq
structure Stt where
  version : BitVec 32
  key : Ci
  title : Bs
  acc : Acc
  pass : Bs
  seats : List Seat
  invites : List Inv
  asks : List Ask
  bans : List Ban
  deriving DecidableEq
structure Actn where
  version : BitVec 32
  kind : BitVec 8
  who : Ci
  e : Pt
  role : BitVec 8
  title : Bs
  acc : Acc
  pass : Bs
  deriving DecidableEq

def ci0 : Ci := ⟨pt0, pt0⟩
def acc0 : Acc := ⟨0#8, 0#8, 0#8⟩
def eCi (c : Ci) : AV := .node [pt c.e, pt c.f]
def eSeat (s : Seat) : AV := .node [eCi s.who, u8 s.role, u32 s.joined]
def eInv (s : Inv) : AV := .node [eCi s.who, u8 s.role, eCi s.by_]
def eAsk (s : Ask) : AV := .node [eCi s.who, u32 s.at_]
def eBan (s : Ban) : AV := .node [eCi s.who, eCi s.by_]
def eAcc (a : Acc) : AV := .node [u8 a.title, u8 a.members, u8 a.link]

section
variable (c d : Ci) (s s' : Seat) (i i' : Inv) (q q' : Ask) (b b' : Ban) (a a' : Acc) (p p' r r' : Pt)
@[simp] theorem hasTy_eCi : hasTy (eCi c) tCipher = true := by simp [eCi, hasTys]
@[simp] theorem hasTy_eSeat : hasTy (eSeat s) tSeat = true := by simp [eSeat, hasTys]
@[simp] theorem hasTy_eInv : hasTy (eInv i) tInvite = true := by simp [eInv, hasTys]
@[simp] theorem hasTy_eAsk : hasTy (eAsk q) tAsk = true := by simp [eAsk, hasTys]
@[simp] theorem hasTy_eBan : hasTy (eBan b) tBan = true := by simp [eBan, hasTys]
@[simp] theorem hasTy_eAcc : hasTy (eAcc a) tAccess = true := by simp [eAcc, hasTys]
@[simp] theorem hasTy_ePub : hasTy (eCi c) tPublic = true := by simp [eCi, hasTys]

theorem and_dec {A B : Prop} [Decidable A] [Decidable B] : (decide A && decide B) = decide (A ∧ B) := by simp
theorem dec_iff {A B : Prop} [Decidable A] [Decidable B] (h : A ↔ B) : decide A = decide B := by simp [h]
@[simp] theorem eqv_eCi : eqv (eCi c) (eCi d) = some (decide (c = d)) := by
  simp only [eCi, eqv, eqvs, eqv_pt, Bool.and_true, and_dec]
  congr 1
  apply dec_iff
  cases c; cases d; simp
@[simp] theorem eqv_eSeat : eqv (eSeat s) (eSeat s') = some (decide (s = s')) := by
  simp only [eSeat, eqv, eqvs, eqv_eCi, eqv_u8, eqv_u32, Bool.and_true, and_dec]
  congr 1; apply dec_iff
  cases s; cases s'; simp
@[simp] theorem eqv_eInv : eqv (eInv i) (eInv i') = some (decide (i = i')) := by
  simp only [eInv, eqv, eqvs, eqv_eCi, eqv_u8, Bool.and_true, and_dec]
  congr 1; apply dec_iff
  cases i; cases i'; simp
@[simp] theorem eqv_eAsk : eqv (eAsk q) (eAsk q') = some (decide (q = q')) := by
  simp only [eAsk, eqv, eqvs, eqv_eCi, eqv_u32, Bool.and_true, and_dec]
  congr 1; apply dec_iff
  cases q; cases q'; simp
@[simp] theorem eqv_eBan : eqv (eBan b) (eBan b') = some (decide (b = b')) := by
  simp only [eBan, eqv, eqvs, eqv_eCi, Bool.and_true, and_dec]
  congr 1; apply dec_iff
  cases b; cases b'; simp
@[simp] theorem eqv_eAcc : eqv (eAcc a) (eAcc a') = some (decide (a = a')) := by
  simp only [eAcc, eqv, eqvs, eqv_u8, Bool.and_true, and_dec]
  congr 1; apply dec_iff
  cases a; cases a'; simp
end

/-! a slice of bytes -/
def BytL (h : Heap) (x : AV) (l : Bs) : Prop := Byt h x l.length (Bs.g l) ∧ l.length ≤ 140737488355328
theorem strOf_list (l : Bs) (m : Bs) : strOf l.length (Bs.g l) = strOf m.length (Bs.g m) ↔ l = m := by
  constructor
  · intro h
    obtain ⟨h1, h2⟩ := strOf_inj h
    exact bs_ext h1 h2
  · rintro rfl; rfl
def strL (l : Bs) : ByteArray := strOf l.length (Bs.g l)
theorem strL_inj {l m : Bs} : strL l = strL m ↔ l = m := strOf_list l m
theorem BytL.str {h : Heap} {x : AV} {l : Bs} (hb : BytL h x l) : mStr x h = some (.str (strL l)) := Byt.str hb.1
theorem BytL.len {h : Heap} {x : AV} {l : Bs} (hb : BytL h x l) : mLenS x = some (nat l.length) := Byt.len hb.1
theorem BytL.app {h : Heap} {x : AV} {l : Bs} (hb : BytL h x l) (t : Heap) : BytL (h ++ t) x l := ⟨Byt.app hb.1 t, hb.2⟩
theorem BytL.bound {h : Heap} {x : AV} {l : Bs} (hb : BytL h x l) : l.length ≤ 140737488355328 := hb.2
theorem BytL.nil (h : Heap) : BytL h .nilslice [] := ⟨Byt.nil h _, by simp⟩
theorem BytL.of {h : Heap} {x : AV} {n : Nat} {g : Nat → BitVec 8} (hb : Byt h x n g) (hn : n ≤ 140737488355328) : BytL h x ((List.range n).map g) := by
  unfold BytL
  rw [List.length_map, List.length_range]
  exact ⟨hb.congr fun i hi => by simp [Bs.g, List.getD_eq_getElem?_getD, hi], hn⟩
@[simp] theorem mBinT_eqL (l m : Bs) : mBinT .eql (.str (strL l)) (.str (strL m)) = some (.bool (decide (l = m))) := by
  simp only [mBinT]; congr 2; exact dec_iff strL_inj
@[simp] theorem mBinT_neL (l m : Bs) : mBinT .neq (.str (strL l)) (.str (strL m)) = some (.bool (!decide (l = m))) := by
  simp only [mBinT]; congr 3; exact dec_iff strL_inj
theorem BytL.cell {h : Heap} {x : AV} {l : Bs} (hb : BytL h x l) : hasTy x .cell = true := by
  have h2 := hb.1.2
  unfold slOk at h2
  split at h2
  · rfl
  · rfl
  · rfl
  · cases h2

/-! a slice of elements of one type -/
def rowOk (t : Ty) : AV → Nat → Prop
  | .nilslice, n => n = 0
  | .slice _ _ _ t' _ len (some c), n => len = n ∧ len ≤ c ∧ t' = t
  | _, _ => False
def Row (t : Ty) (h : Heap) (x : AV) (vs : List AV) : Prop := mElems t x h = some (.node vs) ∧ rowOk t x vs.length ∧ vs.length ≤ 140737488355328

section
variable {t : Ty} {h : Heap} {x : AV} {vs : List AV}
theorem Row.len (hr : Row t h x vs) : mLenS x = some (nat vs.length) := by
  have h2 := hr.2.1
  unfold rowOk at h2
  split at h2
  · rw [h2]; rfl
  · rw [← h2.1]; rfl
  · cases h2
theorem Row.app (hr : Row t h x vs) (l : Heap) : Row t (h ++ l) x vs := ⟨mElems_app hr.1 l, hr.2⟩
theorem Row.cell (hr : Row t h x vs) : hasTy x .cell = true := by
  have h2 := hr.2.1
  unfold rowOk at h2
  split at h2
  · rfl
  · rfl
  · cases h2
theorem Row.bound (hr : Row t h x vs) : vs.length ≤ 140737488355328 := hr.2.2
theorem mElems_row {i ver : Nat} {path : List Nat} {off len : Nat} {cap : Option Nat} : mElems t (.slice i ver path t off len cap) h = bnd (blkAt h i ver) fun b => bnd (b.v.get path) fun r => r.cut off len := by simp [mElems]
theorem cut_node {r : AV} {off len : Nat} (hc : r.cut off len = some (.node vs)) : vs.length = len ∧ ∀ i, i < len → r.get [off + i] = vs[i]? := by
  cases r <;> simp only [AV.cut] at hc <;> try (cases hc; done)
  case ints k xs => split at hc <;> cases hc
  case node us =>
    split at hc
    · rename_i hl
      simp only [Option.some.injEq, AV.node.injEq] at hc
      subst hc
      refine ⟨by simp; omega, fun i hi => ?_⟩
      simp only [get_node, List.getElem?_take, List.getElem?_drop, if_pos hi]
      cases us[off + i]? <;> simp
    · cases hc
theorem Row.slc (hr : Row t h x vs) (h0 : vs ≠ []) : ∃ b ver path off c, x = .slice b ver path t off vs.length (some c) ∧ vs.length ≤ c := by
  have h2 := hr.2.1
  cases x with
  | nilslice => exact absurd (List.eq_nil_of_length_eq_zero h2) h0
  | slice b ver path t' off len cap =>
    cases cap with
    | none => exact h2.elim
    | some c =>
      obtain ⟨e1, e2, e3⟩ := h2
      subst e3; subst e1
      exact ⟨b, ver, path, off, c, rfl, e2⟩
  | _ => exact h2.elim
theorem Row.idx (hr : Row t h x vs) {i : Nat} (hi : i < vs.length) : ∃ p, mIdxS t x (nat i) = some p ∧ ∀ l, mLoad t p (h ++ l) = vs[i]? := by
  obtain ⟨b, ver, path, off, c, rfl, hc⟩ := hr.slc (by rintro rfl; simp at hi)
  have h1 := hr.1
  rw [mElems_row] at h1
  obtain ⟨bb, g1, g2⟩ := bnd_eq_some.1 h1
  obtain ⟨r, g3, g4⟩ := bnd_eq_some.1 g2
  refine ⟨.ptr b ver (path ++ [off + i]) t, by simp [mIdxS, hi], fun l => ?_⟩
  rw [mLoad_ptr, blkAt_app g1, bnd_some, get_append, g3, bnd_some]
  exact (cut_node g4).2 i hi
theorem Row.idx0 (hr : Row t h x vs) {i : Nat} (hi : i < vs.length) : ∃ p, mIdxS t x (nat i) = some p ∧ mLoad t p h = vs[i]? := by
  obtain ⟨p, h1, h2⟩ := hr.idx hi
  exact ⟨p, h1, by simpa using h2 []⟩
end

/-! states and actions -/
def eStH (v : BitVec 32) (k : Ci) (c : Acc) (vt vp vs vi va vb : AV) : AV := .node [u32 v, eCi k, vt, eAcc c, vp, vs, vi, va, vb]
abbrev eSt (s : Stt) : AV → AV → AV → AV → AV → AV → AV := eStH s.version s.key s.acc
structure StR (h : Heap) (s : Stt) (vt vp vs vi va vb : AV) : Prop where
  ft : BytL h vt s.title
  fp : BytL h vp s.pass
  fs : Row tSeat h vs (s.seats.map eSeat)
  fi : Row tInvite h vi (s.invites.map eInv)
  fa : Row tAsk h va (s.asks.map eAsk)
  fb : Row tBan h vb (s.bans.map eBan)
def St? (h : Heap) (v : AV) (s : Stt) : Prop := ∃ vt vp vs vi va vb, v = eSt s vt vp vs vi va vb ∧ StR h s vt vp vs vi va vb

theorem StR.app {h : Heap} {s : Stt} {vt vp vs vi va vb : AV} (r : StR h s vt vp vs vi va vb) (l : Heap) : StR (h ++ l) s vt vp vs vi va vb :=
  ⟨r.ft.app l, r.fp.app l, r.fs.app l, r.fi.app l, r.fa.app l, r.fb.app l⟩

def eActH (v : BitVec 32) (k : BitVec 8) (w : Ci) (e : Pt) (r : BitVec 8) (c : Acc) (vt vp : AV) : AV := .node [u32 v, u8 k, eCi w, pt e, u8 r, vt, eAcc c, vp]
abbrev eAct (a : Actn) : AV → AV → AV := eActH a.version a.kind a.who a.e a.role a.acc
structure ActR (h : Heap) (a : Actn) (vt vp : AV) : Prop where
  t : BytL h vt a.title
  p : BytL h vp a.pass
theorem ActR.app {h : Heap} {a : Actn} {vt vp : AV} (r : ActR h a vt vp) (l : Heap) : ActR (h ++ l) a vt vp := ⟨r.t.app l, r.p.app l⟩

@[simp] theorem hasTy_nilslice : hasTy .nilslice .cell = true := rfl
@[simp] theorem hasTy_slice (i ver : Nat) (path : List Nat) (t : Ty) (off len : Nat) (cap : Option Nat) : hasTy (.slice i ver path t off len cap) .cell = true := rfl
@[simp] theorem hasTy_bool (b : Bool) : hasTy (.bool b) .cell = true := rfl
@[simp] theorem hasTy_ptr (i ver : Nat) (path : List Nat) (t : Ty) : hasTy (.ptr i ver path t) .cell = true := rfl
@[simp] theorem hasTy_nilptr : hasTy .nilptr .cell = true := rfl
@[simp] theorem hasTy_fn (f : Nat) (c : List AV) : hasTy (.fn f c) .cell = true := rfl
@[simp] theorem hasTy_eSt (v : BitVec 32) (k : Ci) (c : Acc) (vt vp vs vi va vb : AV) : hasTy (eStH v k c vt vp vs vi va vb) tState = (hasTy vt .cell && (hasTy vp .cell && (hasTy vs .cell && (hasTy vi .cell && (hasTy va .cell && hasTy vb .cell))))) := by
  simp [eStH, hasTys]
@[simp] theorem hasTy_eAct (v : BitVec 32) (k : BitVec 8) (w : Ci) (e : Pt) (r : BitVec 8) (c : Acc) (vt vp : AV) : hasTy (eActH v k w e r c vt vp) tAction = (hasTy vt .cell && hasTy vp .cell) := by
  simp [eActH, hasTys]
theorem StR.cells {h : Heap} {s : Stt} {vt vp vs vi va vb : AV} (r : StR h s vt vp vs vi va vb) : hasTy vt .cell = true ∧ hasTy vp .cell = true ∧ hasTy vs .cell = true ∧ hasTy vi .cell = true ∧ hasTy va .cell = true ∧ hasTy vb .cell = true :=
  ⟨r.ft.cell, r.fp.cell, r.fs.cell, r.fi.cell, r.fa.cell, r.fb.cell⟩
theorem ActR.cells {h : Heap} {a : Actn} {vt vp : AV} (r : ActR h a vt vp) : hasTy vt .cell = true ∧ hasTy vp .cell = true := ⟨r.t.cell, r.p.cell⟩

section
variable (i ver : Nat) (path : List Nat) (t : Ty) (off len : Nat) (cap : Option Nat)
@[simp] theorem binP_eq : mBinP .eql (.ptr i ver path t) .nilptr = some (.bool false) := rfl
@[simp] theorem binP_ne : mBinP .neq (.ptr i ver path t) .nilptr = some (.bool true) := rfl
@[simp] theorem binP_eq0 : mBinP .eql .nilptr .nilptr = some (.bool true) := rfl
@[simp] theorem binP_ne0 : mBinP .neq .nilptr .nilptr = some (.bool false) := rfl
@[simp] theorem binS_eq : mBinS .eql (.slice i ver path t off len cap) .nilslice = some (.bool false) := rfl
@[simp] theorem binS_ne : mBinS .neq (.slice i ver path t off len cap) .nilslice = some (.bool true) := rfl
@[simp] theorem binS_eq0 : mBinS .eql .nilslice .nilslice = some (.bool true) := rfl
@[simp] theorem binS_ne0 : mBinS .neq .nilslice .nilslice = some (.bool false) := rfl
@[simp] theorem nilCheck_fn (f : Nat) (c : List AV) : mNilCheck (.fn f c) = some (.fn f c) := rfl
@[simp] theorem extract_0 (a : AV) (l : List AV) : mExtract (.tuple (a :: l)) 0 = some a := rfl
@[simp] theorem extract_1 (a b : AV) (l : List AV) : mExtract (.tuple (a :: b :: l)) 1 = some b := rfl
@[simp] theorem extract_2 (a b c : AV) (l : List AV) : mExtract (.tuple (a :: b :: c :: l)) 2 = some c := rfl
@[simp] theorem extract_3 (a b c d : AV) (l : List AV) : mExtract (.tuple (a :: b :: c :: d :: l)) 3 = some d := rfl
end

/-! reading and writing in them -/
attribute [simp] hasTys
@[simp] theorem mNew_if (t : Ty) (v : AV) (h : Heap) : mNew t v h = if hasTy v t = true then some (.ptr h.length 0 [] t, h ++ [⟨v, 0, .own⟩]) else none := rfl
@[simp] theorem stU_if (t : Ty) (i ver : Nat) (path : List Nat) (x : AV) (h : Heap) : stU t (.ptr i ver path t) x h = if hasTy x t = true then stR i ver path x h else none := by
  unfold stU mStore
  simp only [Ty.beq_self, Bool.true_and]
  split
  · unfold stR
    cases blkAt h i ver with
    | none => rfl
    | some b =>
      simp only [bnd_some]
      split
      · rfl
      · cases b.v.put path x <;> rfl
  · rfl
section
variable (v v' : BitVec 32) (k k' : Ci) (c c' : Acc) (vt vp vs vi va vb x : AV) (r : List Nat) (kd : BitVec 8) (w : Ci) (e : Pt) (ro : BitVec 8)
@[simp] theorem eSt_get0 : (eStH v k c vt vp vs vi va vb).get (0 :: r) = (u32 v).get r := by simp [eStH]
@[simp] theorem eSt_get1 : (eStH v k c vt vp vs vi va vb).get (1 :: r) = (eCi k).get r := by simp [eStH]
@[simp] theorem eSt_get2 : (eStH v k c vt vp vs vi va vb).get (2 :: r) = (vt).get r := by simp [eStH]
@[simp] theorem eSt_get3 : (eStH v k c vt vp vs vi va vb).get (3 :: r) = (eAcc c).get r := by simp [eStH]
@[simp] theorem eSt_get4 : (eStH v k c vt vp vs vi va vb).get (4 :: r) = (vp).get r := by simp [eStH]
@[simp] theorem eSt_get5 : (eStH v k c vt vp vs vi va vb).get (5 :: r) = (vs).get r := by simp [eStH]
@[simp] theorem eSt_get6 : (eStH v k c vt vp vs vi va vb).get (6 :: r) = (vi).get r := by simp [eStH]
@[simp] theorem eSt_get7 : (eStH v k c vt vp vs vi va vb).get (7 :: r) = (va).get r := by simp [eStH]
@[simp] theorem eSt_get8 : (eStH v k c vt vp vs vi va vb).get (8 :: r) = (vb).get r := by simp [eStH]
@[simp] theorem eSt_put0 : (eStH v k c vt vp vs vi va vb).put [0] (u32 v') = some (eStH v' k c vt vp vs vi va vb) := by simp [eStH]
@[simp] theorem eSt_put1 : (eStH v k c vt vp vs vi va vb).put [1] (eCi k') = some (eStH v k' c vt vp vs vi va vb) := by simp [eStH]
@[simp] theorem eSt_put2 : (eStH v k c vt vp vs vi va vb).put [2] x = some (eStH v k c x vp vs vi va vb) := by simp [eStH]
@[simp] theorem eSt_put3 : (eStH v k c vt vp vs vi va vb).put [3] (eAcc c') = some (eStH v k c' vt vp vs vi va vb) := by simp [eStH]
@[simp] theorem eSt_put4 : (eStH v k c vt vp vs vi va vb).put [4] x = some (eStH v k c vt x vs vi va vb) := by simp [eStH]
@[simp] theorem eSt_put5 : (eStH v k c vt vp vs vi va vb).put [5] x = some (eStH v k c vt vp x vi va vb) := by simp [eStH]
@[simp] theorem eSt_put6 : (eStH v k c vt vp vs vi va vb).put [6] x = some (eStH v k c vt vp vs x va vb) := by simp [eStH]
@[simp] theorem eSt_put7 : (eStH v k c vt vp vs vi va vb).put [7] x = some (eStH v k c vt vp vs vi x vb) := by simp [eStH]
@[simp] theorem eSt_put8 : (eStH v k c vt vp vs vi va vb).put [8] x = some (eStH v k c vt vp vs vi va x) := by simp [eStH]
@[simp] theorem eAct_get0 : (eActH v kd w e ro c vt vp).get (0 :: r) = (u32 v).get r := by simp [eActH]
@[simp] theorem eAct_get1 : (eActH v kd w e ro c vt vp).get (1 :: r) = (u8 kd).get r := by simp [eActH]
@[simp] theorem eAct_get2 : (eActH v kd w e ro c vt vp).get (2 :: r) = (eCi w).get r := by simp [eActH]
@[simp] theorem eAct_get3 : (eActH v kd w e ro c vt vp).get (3 :: r) = (pt e).get r := by simp [eActH]
@[simp] theorem eAct_get4 : (eActH v kd w e ro c vt vp).get (4 :: r) = (u8 ro).get r := by simp [eActH]
@[simp] theorem eAct_get5 : (eActH v kd w e ro c vt vp).get (5 :: r) = (vt).get r := by simp [eActH]
@[simp] theorem eAct_get6 : (eActH v kd w e ro c vt vp).get (6 :: r) = (eAcc c).get r := by simp [eActH]
@[simp] theorem eAct_get7 : (eActH v kd w e ro c vt vp).get (7 :: r) = (vp).get r := by simp [eActH]
@[simp] theorem eAct_put0 : (eActH v kd w e ro c vt vp).put [0] (u32 v') = some (eActH v' kd w e ro c vt vp) := by simp [eActH]
@[simp] theorem eAct_put5 : (eActH v kd w e ro c vt vp).put [5] x = some (eActH v kd w e ro c x vp) := by simp [eActH]
@[simp] theorem eAct_put7 : (eActH v kd w e ro c vt vp).put [7] x = some (eActH v kd w e ro c vt x) := by simp [eActH]
end
section
variable (r : List Nat)
variable (c : Ci) (z : Seat) (i : Inv) (q : Ask) (b : Ban) (k : Acc)
@[simp] theorem eCi_get0 : (eCi c).get (0 :: r) = (pt c.e).get r := by simp [eCi]
@[simp] theorem eCi_get1 : (eCi c).get (1 :: r) = (pt c.f).get r := by simp [eCi]
@[simp] theorem eSeat_get0 : (eSeat z).get (0 :: r) = (eCi z.who).get r := by simp [eSeat]
@[simp] theorem eSeat_get1 : (eSeat z).get (1 :: r) = (u8 z.role).get r := by simp [eSeat]
@[simp] theorem eSeat_get2 : (eSeat z).get (2 :: r) = (u32 z.joined).get r := by simp [eSeat]
@[simp] theorem eInv_get0 : (eInv i).get (0 :: r) = (eCi i.who).get r := by simp [eInv]
@[simp] theorem eInv_get1 : (eInv i).get (1 :: r) = (u8 i.role).get r := by simp [eInv]
@[simp] theorem eInv_get2 : (eInv i).get (2 :: r) = (eCi i.by_).get r := by simp [eInv]
@[simp] theorem eAsk_get0 : (eAsk q).get (0 :: r) = (eCi q.who).get r := by simp [eAsk]
@[simp] theorem eAsk_get1 : (eAsk q).get (1 :: r) = (u32 q.at_).get r := by simp [eAsk]
@[simp] theorem eBan_get0 : (eBan b).get (0 :: r) = (eCi b.who).get r := by simp [eBan]
@[simp] theorem eBan_get1 : (eBan b).get (1 :: r) = (eCi b.by_).get r := by simp [eBan]
@[simp] theorem eAcc_get0 : (eAcc k).get (0 :: r) = (u8 k.title).get r := by simp [eAcc]
@[simp] theorem eAcc_get1 : (eAcc k).get (1 :: r) = (u8 k.members).get r := by simp [eAcc]
@[simp] theorem eAcc_get2 : (eAcc k).get (2 :: r) = (u8 k.link).get r := by simp [eAcc]
end

section
variable (a b : Pt) (c d : Ci) (r r2 r3 : BitVec 8) (j : BitVec 32) (k : Acc) (vt vp vs vi va vb : AV)
@[simp] theorem fold_eCi : AV.node [pt a, pt b] = eCi ⟨a, b⟩ := rfl
@[simp] theorem fold_eSeat : AV.node [eCi c, u8 r, u32 j] = eSeat ⟨c, r, j⟩ := rfl
@[simp] theorem fold_eInv : AV.node [eCi c, u8 r, eCi d] = eInv ⟨c, r, d⟩ := rfl
@[simp] theorem fold_eAsk : AV.node [eCi c, u32 j] = eAsk ⟨c, j⟩ := rfl
@[simp] theorem fold_eBan : AV.node [eCi c, eCi d] = eBan ⟨c, d⟩ := rfl
@[simp] theorem fold_eSt (v : BitVec 32) : AV.node [u32 v, eCi c, vt, eAcc k, vp, vs, vi, va, vb] = eStH v c k vt vp vs vi va vb := rfl
@[simp] theorem fold_eAct (v : BitVec 32) (kd : BitVec 8) (e : Pt) : AV.node [u32 v, u8 kd, eCi c, pt e, u8 r, vt, eAcc k, vp] = eActH v kd c e r k vt vp := rfl
@[simp] theorem fold_eAcc : AV.node [u8 r, u8 r2, u8 r3] = eAcc ⟨r, r2, r3⟩ := rfl
end

theorem fin_b {h l : Heap} {b c : Bool} (hb : c = b) : ∃ t, (oneOrTuple [.bool c], h ++ l) = ((.bool b, h ++ t) : AV × Heap) := ⟨l, by simp [oneOrTuple, hb]⟩
theorem fin_v {h l : Heap} {v w : AV} (hb : v = w) : ∃ t, (oneOrTuple [v], h ++ l) = ((w, h ++ t) : AV × Heap) := ⟨l, by simp [oneOrTuple, hb]⟩

end Go.Vab

/-
  What was read, as data: numbers, rows of bytes, structs, slices.
-/
namespace Go.Vas
open Go Go.Vab

def ftys (P : Program) (t : TypeId) : Option (List TypeId) := match P.underlying t with
  | some (.struct fs) => some (fs.toList.map (·.type))
  | _ => none

variable {P : Program} {tt : Nat → Option TI}

/-- Values of a type without slices. -/
def Reads (P : Program) (tt : Nat → Option TI) (t : TypeId) (T : Ty) {Y : Type} (enc : Y → AV) : Prop := ∀ (h : Heap) (n : Nat) (a : AV), hasTy a T = true → Rd P tt h n t a → ∃ y, a = enc y

theorem rdI8 {t : TypeId} {T : Ty} (hu : P.underlying t = some (.int .u8)) : Reads P tt t T u8 := by
  intro h n a _ hr
  cases n with
  | zero => exact hr.elim
  | succ n =>
    simp only [Rd, hu] at hr
    obtain ⟨x, rfl, hw⟩ := hr
    simp [Lit.wf, IntKind.min, IntKind.max, IntKind.signed, IntKind.bits] at hw
    refine ⟨BitVec.ofInt 8 x, ?_⟩
    unfold u8
    rw [BitVec.toNat_ofInt]
    congr 1
    have h2 : ((2 ^ 8 : Nat) : Int) = 256 := rfl
    omega
theorem rdI32 {t : TypeId} {T : Ty} (hu : P.underlying t = some (.int .u32)) : Reads P tt t T u32 := by
  intro h n a _ hr
  cases n with
  | zero => exact hr.elim
  | succ n =>
    simp only [Rd, hu] at hr
    obtain ⟨x, rfl, hw⟩ := hr
    simp [Lit.wf, IntKind.min, IntKind.max, IntKind.signed, IntKind.bits] at hw
    refine ⟨BitVec.ofInt 32 x, ?_⟩
    unfold u32
    rw [BitVec.toNat_ofInt]
    congr 1
    have h2 : ((2 ^ 32 : Nat) : Int) = 4294967296 := rfl
    omega

theorem row8 {h : Heap} {n m : Nat} {e : TypeId} {v : AV} (hu : P.underlying e = some (.int .u8)) (ht : hasTy v (.arr m (.int .u8)) = true) (hr : ∀ j, j < m → ∃ x, v.get [j] = some x ∧ Rd P tt h n e x) : ∃ g : Nat → BitVec 8, v = arr m g := by
  cases v <;> simp [hasTy] at ht
  rename_i k xs
  obtain ⟨rfl, hl⟩ := ht
  have he : ∀ j, j < m → ∃ b : BitVec 8, xs[j]? = some (b.toNat : Int) := by
    intro j hj
    obtain ⟨x, hx, hd⟩ := hr j hj
    have hx' := hx
    simp only [AV.get] at hx
    cases hxs : xs[j]? with
    | none => rw [hxs] at hx; cases hx
    | some y =>
      rw [hxs] at hx
      obtain ⟨b, rfl⟩ := rdI8 (T := .int .u8) hu h n (.int .u8 y) (by simp [hasTy]) (by simp only [Option.some.injEq] at hx; rw [hx]; exact hd) |> fun ⟨b, hb⟩ => (⟨b, by simpa [u8] using hb⟩ : ∃ b : BitVec 8, y = (b.toNat : Int))
      exact ⟨b, rfl⟩
  refine ⟨fun j => match xs[j]? with | some y => BitVec.ofInt 8 y | none => 0#8, ?_⟩
  unfold Vab.arr Vab.bytes
  congr 1
  apply List.ext_getElem?
  intro j
  rw [List.getElem?_map]
  by_cases hj : j < m
  · obtain ⟨b, hb⟩ := he j hj
    rw [range_map_getD, if_pos hj, hb]
    simp
  · rw [range_map_getD, if_neg hj, List.getElem?_eq_none (by omega)]; rfl

theorem rdArr {t e : TypeId} {m : Nat} (hu : P.underlying t = some (.array m e)) (he : P.underlying e = some (.int .u8)) : Reads P tt t (.arr m (.int .u8)) fun g => arr m g := by
  intro h n a ht hr
  cases n with
  | zero => exact hr.elim
  | succ n =>
    simp only [Rd, hu] at hr
    exact row8 he ht hr
theorem rdPt {t e : TypeId} (hu : P.underlying t = some (.array 32 e)) (he : P.underlying e = some (.int .u8)) : Reads P tt t (.arr 32 (.int .u8)) pt := by
  intro h n a ht hr
  obtain ⟨g, rfl⟩ := rdArr hu he h n a ht hr
  exact ⟨_, arr_pt g⟩

theorem rdS {t : TypeId} {us : List TypeId} {h : Heap} {n : Nat} {a : AV} (hf : ftys P t = some us) (hr : Rd P tt h n t a) : ∃ vs m, a = .node vs ∧ ∀ (f : Nat) u, us[f]? = some u → ∃ y, vs[f]? = some y ∧ Rd P tt h m u y := by
  cases n with
  | zero => exact hr.elim
  | succ n =>
    unfold ftys at hf
    cases hu : P.underlying t with
    | none => rw [hu] at hf; cases hf
    | some d =>
      rw [hu] at hf
      cases d <;> try (cases hf; done)
      rename_i fs
      simp only [Option.some.injEq] at hf
      subst hf
      unfold Rd at hr
      rw [hu] at hr
      obtain ⟨vs, h1, h2⟩ := hr
      refine ⟨vs, n, h1, fun f u hfu => ?_⟩
      rw [List.getElem?_map] at hfu
      cases hx : fs[f]? with
      | none => rw [Array.getElem?_toList, hx] at hfu; cases hfu
      | some x =>
        rw [Array.getElem?_toList, hx] at hfu
        simp only [Option.map_some, Option.some.injEq] at hfu
        subst hfu
        exact h2 f x hx
theorem hasTys_c {vs : List AV} {t : Ty} {ts : List Ty} (h : hasTys vs (t :: ts) = true) : ∃ v us, vs = v :: us ∧ hasTy v t = true ∧ hasTys us ts = true := by
  cases vs with
  | nil => simp [hasTys] at h
  | cons v us =>
    simp only [hasTys, Bool.and_eq_true] at h
    exact ⟨v, us, rfl, h.1, h.2⟩
theorem hasTys_n {vs : List AV} (h : hasTys vs [] = true) : vs = [] := by
  cases vs with
  | nil => rfl
  | cons v us => simp [hasTys] at h

theorem byt_own {h : Heap} {i ver n m c : Nat} {b : Blk} {f : Nat → BitVec 8} (hb : blkAt h i ver = some b) (hv : b.v = arr m f) (hl : n ≤ m) (hc : n ≤ c) : Byt h (.slice i ver [] (.int .u8) 0 n (some c)) n f := by
  refine ⟨?_, rfl, hc, rfl⟩
  rw [mElems_slc, hb, bnd_some, get_nil, bnd_some, hv, arr_cut, if_pos (by omega)]
  exact congrArg some (arr_congr fun i _ => by rw [Nat.zero_add])

/-- Bytes. -/
theorem rdB {t e : TypeId} {h : Heap} {n : Nat} {a : AV} (hu : P.underlying t = some (.slice e)) (he : P.underlying e = some (.int .u8)) (hb : P.bytesOf e = 1) (hte : ∀ el, tt e = some el → el.ty = .int .u8) (hr : Rd P tt h n t a) : ∃ l, BytL h a l := by
  cases n with
  | zero => exact hr.elim
  | succ n =>
    simp only [Rd, hu] at hr
    rcases hr with rfl | ⟨i, el, row, mo, len, cap, rfl, h2, h3, h4, h5, h6, hw, h7⟩
    · exact ⟨[], BytL.nil _⟩
    · have e1 := hte _ h2
      rw [e1] at h4 ⊢
      obtain ⟨g, rfl⟩ := row8 he h4 h7
      rw [hb] at hw
      unfold reachBytes at hw
      exact ⟨_, BytL.of (byt_own (b := ⟨Vab.arr cap g, 0, mo.1⟩) (by unfold blkAt; rw [h3]; simp [mo.2]) rfl h5 h5) (by omega)⟩

theorem maps_of {Y : Type} {enc : Y → AV} : ∀ {us : List AV}, (∀ x ∈ us, ∃ y, x = enc y) → ∃ l : List Y, us = l.map enc
  | [], _ => ⟨[], rfl⟩
  | x :: us, h => by
    obtain ⟨y, rfl⟩ := h x (List.mem_cons_self ..)
    obtain ⟨l, rfl⟩ := maps_of (us := us) fun x hx => h x (List.mem_cons_of_mem _ hx)
    exact ⟨y :: l, rfl⟩

/-- Slices of structs. -/
theorem rdR {t e : TypeId} {h : Heap} {n : Nat} {a : AV} {T : Ty} {Y : Type} {enc : Y → AV} (hu : P.underlying t = some (.slice e)) (hb : 0 < P.bytesOf e) (hte : ∀ el, tt e = some el → el.ty = T) (hT : ∃ ts, T = .struct ts) (hY : Reads P tt e T enc) (hr : Rd P tt h n t a) : ∃ l : List Y, Row T h a (l.map enc) := by
  cases n with
  | zero => exact hr.elim
  | succ n =>
    simp only [Rd, hu] at hr
    rcases hr with rfl | ⟨i, el, row, mo, len, cap, rfl, h2, h3, h4, h5, h6, hw, h7⟩
    · obtain ⟨ts, rfl⟩ := hT
      exact ⟨[], by simp [mElems], rfl, by simp⟩
    · have e1 := hte _ h2
      rw [e1] at h4 ⊢
      obtain ⟨ts, rfl⟩ := hT
      have hrow : ∃ us, row = .node us ∧ us.length = cap ∧ ∀ x ∈ us, hasTy x (.struct ts) = true := by
        cases row <;> simp only [hasTy, Bool.false_eq_true] at h4
        rename_i us
        simp only [Bool.and_eq_true, decide_eq_true_eq, hasTyAll_iff] at h4
        exact ⟨us, rfl, h4.1, h4.2⟩
      obtain ⟨us, rfl, hl, hty⟩ := hrow
      have hall : ∀ x ∈ us.take len, ∃ y, x = enc y := by
        intro x hx
        have hx2 := List.mem_of_mem_take hx
        obtain ⟨j, hj⟩ := List.getElem?_of_mem hx2
        have hlt := (List.getElem?_eq_some_iff.1 hj).1
        obtain ⟨y, hy, hd⟩ := h7 j (by omega)
        simp only [get_node, hj] at hy
        simp at hy
        subst hy
        exact hY h n x (hty x hx2) hd
      obtain ⟨l, hml⟩ := maps_of hall
      refine ⟨l, ?_⟩
      rw [← hml]
      have hlen : (us.take len).length = len := by rw [List.length_take]; omega
      refine ⟨?_, ?_, ?_⟩
      · rw [mElems_row]
        have : blkAt h i 0 = some ⟨.node us, 0, mo.1⟩ := by unfold blkAt; rw [h3]; simp [mo.2]
        rw [this, bnd_some, get_nil, bnd_some]
        simp only [AV.cut, Nat.zero_add]
        rw [if_pos (by omega), List.drop_zero]
      · rw [hlen]; exact ⟨rfl, h5, rfl⟩
      · rw [hlen]
        have : len * 1 ≤ len * P.bytesOf e := Nat.mul_le_mul_left _ hb
        unfold reachBytes at hw
        omega

/-! structs without slices -/
theorem rdCi {t p : TypeId} (hf : ftys P t = some [p, p]) (hp : Reads P tt p (.arr 32 (.int .u8)) pt) : Reads P tt t tCipher eCi := by
  intro h n a ht hr
  obtain ⟨vs, m, rfl, hv⟩ := rdS hf hr
  obtain ⟨x0, vs, rfl, t0, ht⟩ := hasTys_c (by simpa using ht)
  obtain ⟨x1, vs, rfl, t1, ht⟩ := hasTys_c ht
  obtain rfl := hasTys_n ht
  obtain ⟨_, e0, r0⟩ := hv 0 _ rfl
  obtain ⟨_, e1, r1⟩ := hv 1 _ rfl
  cases e0; cases e1
  obtain ⟨y0, rfl⟩ := hp _ _ _ t0 r0
  obtain ⟨y1, rfl⟩ := hp _ _ _ t1 r1
  exact ⟨⟨y0, y1⟩, rfl⟩
theorem rdAcc {t b c : TypeId} (hf : ftys P t = some [b, b, c]) (hb : P.underlying b = some (.int .u8)) (hc : P.underlying c = some (.int .u8)) : Reads P tt t tAccess eAcc := by
  intro h n a ht hr
  obtain ⟨vs, m, rfl, hv⟩ := rdS hf hr
  obtain ⟨x0, vs, rfl, t0, ht⟩ := hasTys_c (by simpa using ht)
  obtain ⟨x1, vs, rfl, t1, ht⟩ := hasTys_c ht
  obtain ⟨x2, vs, rfl, t2, ht⟩ := hasTys_c ht
  obtain rfl := hasTys_n ht
  obtain ⟨_, e0, r0⟩ := hv 0 _ rfl
  obtain ⟨_, e1, r1⟩ := hv 1 _ rfl
  obtain ⟨_, e2, r2⟩ := hv 2 _ rfl
  cases e0; cases e1; cases e2
  obtain ⟨y0, rfl⟩ := rdI8 hb _ _ _ t0 r0
  obtain ⟨y1, rfl⟩ := rdI8 hb _ _ _ t1 r1
  obtain ⟨y2, rfl⟩ := rdI8 hc _ _ _ t2 r2
  exact ⟨⟨y0, y1, y2⟩, rfl⟩
theorem rdSeat {t c r w : TypeId} (hf : ftys P t = some [c, r, w]) (hc : Reads P tt c tCipher eCi) (hr' : P.underlying r = some (.int .u8)) (hw : P.underlying w = some (.int .u32)) : Reads P tt t tSeat eSeat := by
  intro h n a ht hr
  obtain ⟨vs, m, rfl, hv⟩ := rdS hf hr
  obtain ⟨x0, vs, rfl, t0, ht⟩ := hasTys_c (by simpa using ht)
  obtain ⟨x1, vs, rfl, t1, ht⟩ := hasTys_c ht
  obtain ⟨x2, vs, rfl, t2, ht⟩ := hasTys_c ht
  obtain rfl := hasTys_n ht
  obtain ⟨_, e0, r0⟩ := hv 0 _ rfl
  obtain ⟨_, e1, r1⟩ := hv 1 _ rfl
  obtain ⟨_, e2, r2⟩ := hv 2 _ rfl
  cases e0; cases e1; cases e2
  obtain ⟨y0, rfl⟩ := hc _ _ _ t0 r0
  obtain ⟨y1, rfl⟩ := rdI8 hr' _ _ _ t1 r1
  obtain ⟨y2, rfl⟩ := rdI32 hw _ _ _ t2 r2
  exact ⟨⟨y0, y1, y2⟩, rfl⟩
theorem rdInv {t c r : TypeId} (hf : ftys P t = some [c, r, c]) (hc : Reads P tt c tCipher eCi) (hr' : P.underlying r = some (.int .u8)) : Reads P tt t tInvite eInv := by
  intro h n a ht hr
  obtain ⟨vs, m, rfl, hv⟩ := rdS hf hr
  obtain ⟨x0, vs, rfl, t0, ht⟩ := hasTys_c (by simpa using ht)
  obtain ⟨x1, vs, rfl, t1, ht⟩ := hasTys_c ht
  obtain ⟨x2, vs, rfl, t2, ht⟩ := hasTys_c ht
  obtain rfl := hasTys_n ht
  obtain ⟨_, e0, r0⟩ := hv 0 _ rfl
  obtain ⟨_, e1, r1⟩ := hv 1 _ rfl
  obtain ⟨_, e2, r2⟩ := hv 2 _ rfl
  cases e0; cases e1; cases e2
  obtain ⟨y0, rfl⟩ := hc _ _ _ t0 r0
  obtain ⟨y1, rfl⟩ := rdI8 hr' _ _ _ t1 r1
  obtain ⟨y2, rfl⟩ := hc _ _ _ t2 r2
  exact ⟨⟨y0, y1, y2⟩, rfl⟩
theorem rdAsk {t c w : TypeId} (hf : ftys P t = some [c, w]) (hc : Reads P tt c tCipher eCi) (hw : P.underlying w = some (.int .u32)) : Reads P tt t tAsk eAsk := by
  intro h n a ht hr
  obtain ⟨vs, m, rfl, hv⟩ := rdS hf hr
  obtain ⟨x0, vs, rfl, t0, ht⟩ := hasTys_c (by simpa using ht)
  obtain ⟨x1, vs, rfl, t1, ht⟩ := hasTys_c ht
  obtain rfl := hasTys_n ht
  obtain ⟨_, e0, r0⟩ := hv 0 _ rfl
  obtain ⟨_, e1, r1⟩ := hv 1 _ rfl
  cases e0; cases e1
  obtain ⟨y0, rfl⟩ := hc _ _ _ t0 r0
  obtain ⟨y1, rfl⟩ := rdI32 hw _ _ _ t1 r1
  exact ⟨⟨y0, y1⟩, rfl⟩
theorem rdBan {t c : TypeId} (hf : ftys P t = some [c, c]) (hc : Reads P tt c tCipher eCi) : Reads P tt t tBan eBan := by
  intro h n a ht hr
  obtain ⟨vs, m, rfl, hv⟩ := rdS hf hr
  obtain ⟨x0, vs, rfl, t0, ht⟩ := hasTys_c (by simpa using ht)
  obtain ⟨x1, vs, rfl, t1, ht⟩ := hasTys_c ht
  obtain rfl := hasTys_n ht
  obtain ⟨_, e0, r0⟩ := hv 0 _ rfl
  obtain ⟨_, e1, r1⟩ := hv 1 _ rfl
  cases e0; cases e1
  obtain ⟨y0, rfl⟩ := hc _ _ _ t0 r0
  obtain ⟨y1, rfl⟩ := hc _ _ _ t1 r1
  exact ⟨⟨y0, y1⟩, rfl⟩

/-- Slices, read. -/
def ReadsB (P : Program) (tt : Nat → Option TI) (t : TypeId) : Prop := ∀ (h : Heap) (n : Nat) (a : AV), Rd P tt h n t a → ∃ l, BytL h a l
def ReadsR (P : Program) (tt : Nat → Option TI) (t : TypeId) (T : Ty) {Y : Type} (enc : Y → AV) : Prop := ∀ (h : Heap) (n : Nat) (a : AV), Rd P tt h n t a → ∃ l : List Y, Row T h a (l.map enc)

theorem rdState {t w k b c s i q d : TypeId} (hf : ftys P t = some [w, k, b, c, b, s, i, q, d]) (hw : P.underlying w = some (.int .u32)) (hk : Reads P tt k tCipher eCi) (hb : ReadsB P tt b) (hc : Reads P tt c tAccess eAcc)
    (hs : ReadsR P tt s tSeat eSeat) (hi : ReadsR P tt i tInvite eInv) (hq : ReadsR P tt q tAsk eAsk) (hd : ReadsR P tt d tBan eBan) {h : Heap} {n : Nat} {a : AV} (ht : hasTy a tState = true) (hr : Rd P tt h n t a) :
    ∃ (x : Stt) (vt vp vs vi va vb : AV), a = eSt x vt vp vs vi va vb ∧ StR h x vt vp vs vi va vb := by
  obtain ⟨vs, m, rfl, hv⟩ := rdS hf hr
  obtain ⟨x0, vs, rfl, t0, ht⟩ := hasTys_c (by simpa using ht)
  obtain ⟨x1, vs, rfl, t1, ht⟩ := hasTys_c ht
  obtain ⟨x2, vs, rfl, t2, ht⟩ := hasTys_c ht
  obtain ⟨x3, vs, rfl, t3, ht⟩ := hasTys_c ht
  obtain ⟨x4, vs, rfl, t4, ht⟩ := hasTys_c ht
  obtain ⟨x5, vs, rfl, t5, ht⟩ := hasTys_c ht
  obtain ⟨x6, vs, rfl, t6, ht⟩ := hasTys_c ht
  obtain ⟨x7, vs, rfl, t7, ht⟩ := hasTys_c ht
  obtain ⟨x8, vs, rfl, t8, ht⟩ := hasTys_c ht
  obtain rfl := hasTys_n ht
  obtain ⟨_, e0, r0⟩ := hv 0 _ rfl
  obtain ⟨_, e1, r1⟩ := hv 1 _ rfl
  obtain ⟨_, e2, r2⟩ := hv 2 _ rfl
  obtain ⟨_, e3, r3⟩ := hv 3 _ rfl
  obtain ⟨_, e4, r4⟩ := hv 4 _ rfl
  obtain ⟨_, e5, r5⟩ := hv 5 _ rfl
  obtain ⟨_, e6, r6⟩ := hv 6 _ rfl
  obtain ⟨_, e7, r7⟩ := hv 7 _ rfl
  obtain ⟨_, e8, r8⟩ := hv 8 _ rfl
  cases e0; cases e1; cases e2; cases e3; cases e4; cases e5; cases e6; cases e7; cases e8
  obtain ⟨y0, rfl⟩ := rdI32 hw _ _ _ t0 r0
  obtain ⟨y1, rfl⟩ := hk _ _ _ t1 r1
  obtain ⟨y2, h2⟩ := hb _ _ _ r2
  obtain ⟨y3, rfl⟩ := hc _ _ _ t3 r3
  obtain ⟨y4, h4⟩ := hb _ _ _ r4
  obtain ⟨y5, h5⟩ := hs _ _ _ r5
  obtain ⟨y6, h6⟩ := hi _ _ _ r6
  obtain ⟨y7, h7⟩ := hq _ _ _ r7
  obtain ⟨y8, h8⟩ := hd _ _ _ r8
  exact ⟨⟨y0, y1, y2, y3, y4, y5, y6, y7, y8⟩, x2, x4, x5, x6, x7, x8, rfl, ⟨h2, h4, h5, h6, h7, h8⟩⟩

theorem rdAction {t w k u p r b c : TypeId} (hf : ftys P t = some [w, k, u, p, r, b, c, b]) (hw : P.underlying w = some (.int .u32)) (hk : P.underlying k = some (.int .u8)) (hu : Reads P tt u tCipher eCi) (hp : Reads P tt p (.arr 32 (.int .u8)) pt)
    (hr' : P.underlying r = some (.int .u8)) (hb : ReadsB P tt b) (hc : Reads P tt c tAccess eAcc) {h : Heap} {n : Nat} {a : AV} (ht : hasTy a tAction = true) (hr : Rd P tt h n t a) :
    ∃ (x : Actn) (vt vp : AV), a = eAct x vt vp ∧ ActR h x vt vp := by
  obtain ⟨vs, m, rfl, hv⟩ := rdS hf hr
  obtain ⟨x0, vs, rfl, t0, ht⟩ := hasTys_c (by simpa using ht)
  obtain ⟨x1, vs, rfl, t1, ht⟩ := hasTys_c ht
  obtain ⟨x2, vs, rfl, t2, ht⟩ := hasTys_c ht
  obtain ⟨x3, vs, rfl, t3, ht⟩ := hasTys_c ht
  obtain ⟨x4, vs, rfl, t4, ht⟩ := hasTys_c ht
  obtain ⟨x5, vs, rfl, t5, ht⟩ := hasTys_c ht
  obtain ⟨x6, vs, rfl, t6, ht⟩ := hasTys_c ht
  obtain ⟨x7, vs, rfl, t7, ht⟩ := hasTys_c ht
  obtain rfl := hasTys_n ht
  obtain ⟨_, e0, r0⟩ := hv 0 _ rfl
  obtain ⟨_, e1, r1⟩ := hv 1 _ rfl
  obtain ⟨_, e2, r2⟩ := hv 2 _ rfl
  obtain ⟨_, e3, r3⟩ := hv 3 _ rfl
  obtain ⟨_, e4, r4⟩ := hv 4 _ rfl
  obtain ⟨_, e5, r5⟩ := hv 5 _ rfl
  obtain ⟨_, e6, r6⟩ := hv 6 _ rfl
  obtain ⟨_, e7, r7⟩ := hv 7 _ rfl
  cases e0; cases e1; cases e2; cases e3; cases e4; cases e5; cases e6; cases e7
  obtain ⟨y0, rfl⟩ := rdI32 hw _ _ _ t0 r0
  obtain ⟨y1, rfl⟩ := rdI8 hk _ _ _ t1 r1
  obtain ⟨y2, rfl⟩ := hu _ _ _ t2 r2
  obtain ⟨y3, rfl⟩ := hp _ _ _ t3 r3
  obtain ⟨y4, rfl⟩ := rdI8 hr' _ _ _ t4 r4
  obtain ⟨y5, h5⟩ := hb _ _ _ r5
  obtain ⟨y6, rfl⟩ := hc _ _ _ t6 r6
  obtain ⟨y7, h7⟩ := hb _ _ _ r7
  exact ⟨⟨y0, y1, y2, y3, y4, y5, y6, y7⟩, x5, x7, rfl, ⟨h5, h7⟩⟩

end Go.Vas

/- The types of a seat. Printed by wip/tools/gen2.py (own work). -/
namespace Go.Vab
open Go Go.Proofs
def ttl : List (Nat × TI) := [
  (3, ⟨(.int .i64), 8, (nat 0), none, some .i64, false, none, false⟩),
  (4, ⟨.cell, 1, (.bool false), none, none, false, none, true⟩),
  (5, ⟨(.int .u8), 1, (u8 0#8), none, some .u8, false, none, false⟩),
  (9, ⟨.cell, 16, (.str .empty), none, none, true, none, false⟩),
  (22, ⟨(.int .u32), 4, (u32 0#32), none, some .u32, false, none, false⟩),
  (24, ⟨(.arr 32 (.int .u8)), 32, (arr 32 fun _ => 0#8), none, none, false, none, false⟩),
  (26, ⟨tPublic, 64, (.node [(arr 32 fun _ => 0#8), (arr 32 fun _ => 0#8)]), none, none, false, none, false⟩),
  (27, ⟨.cell, 24, .nilslice, some 5, none, false, none, false⟩),
  (28, ⟨(.int .u8), 1, (u8 0#8), none, some .u8, false, none, false⟩),
  (29, ⟨(.int .u8), 1, (u8 0#8), none, some .u8, false, none, false⟩),
  (31, ⟨tAccess, 3, (.node [(u8 0#8), (u8 0#8), (u8 0#8)]), none, none, false, none, false⟩),
  (32, ⟨.cell, 24, .nilslice, some 87, none, false, none, false⟩),
  (33, ⟨.cell, 24, .nilslice, some 90, none, false, none, false⟩),
  (34, ⟨.cell, 24, .nilslice, some 93, none, false, none, false⟩),
  (35, ⟨.cell, 24, .nilslice, some 96, none, false, none, false⟩),
  (37, ⟨tState, 224, (.node [(u32 0#32), (.node [(arr 32 fun _ => 0#8), (arr 32 fun _ => 0#8)]), .nilslice, (.node [(u8 0#8), (u8 0#8), (u8 0#8)]), .nilslice, .nilslice, .nilslice, .nilslice, .nilslice]), none, none, false, none, false⟩),
  (38, ⟨(.int .u8), 1, (u8 0#8), none, some .u8, false, none, false⟩),
  (40, ⟨tCipher, 64, (.node [(arr 32 fun _ => 0#8), (arr 32 fun _ => 0#8)]), none, none, false, none, false⟩),
  (42, ⟨tAction, 160, (.node [(u32 0#32), (u8 0#8), (.node [(arr 32 fun _ => 0#8), (arr 32 fun _ => 0#8)]), (arr 32 fun _ => 0#8), (u8 0#8), .nilslice, (.node [(u8 0#8), (u8 0#8), (u8 0#8)]), .nilslice]), none, none, false, none, false⟩),
  (49, ⟨(.int .u8), 1, (u8 0#8), none, some .u8, false, none, false⟩),
  (51, ⟨(.arr 16 (.int .u8)), 16, (arr 16 fun _ => 0#8), none, none, false, none, false⟩),
  (52, ⟨(.arr 32 (.int .u8)), 32, (arr 32 fun _ => 0#8), none, none, false, none, false⟩),
  (53, ⟨.cell, 24, .nilslice, some 52, none, false, none, false⟩),
  (55, ⟨tProof, 56, (.node [(arr 32 fun _ => 0#8), .nilslice]), none, none, false, none, false⟩),
  (57, ⟨tPass, 152, (.node [(arr 32 fun _ => 0#8), (arr 32 fun _ => 0#8), (arr 32 fun _ => 0#8), (.node [(arr 32 fun _ => 0#8), .nilslice])]), none, none, false, none, false⟩),
  (59, ⟨tTied, 88, (.node [(arr 32 fun _ => 0#8), (.node [(arr 32 fun _ => 0#8), .nilslice])]), none, none, false, none, false⟩),
  (61, ⟨tShown, 240, (.node [(.node [(arr 32 fun _ => 0#8), (arr 32 fun _ => 0#8), (arr 32 fun _ => 0#8), (.node [(arr 32 fun _ => 0#8), .nilslice])]), (.node [(arr 32 fun _ => 0#8), (.node [(arr 32 fun _ => 0#8), .nilslice])])]), none, none, false, none, false⟩),
  (63, ⟨tVoucher, 216, (.node [(arr 32 fun _ => 0#8), (arr 32 fun _ => 0#8), (arr 32 fun _ => 0#8), (arr 32 fun _ => 0#8), (arr 32 fun _ => 0#8), (.node [(arr 32 fun _ => 0#8), .nilslice])]), none, none, false, none, false⟩),
  (65, ⟨tRequest, 832, (.node [(u8 0#8), (arr 16 fun _ => 0#8), (u32 0#32), (.node [(arr 32 fun _ => 0#8), (arr 32 fun _ => 0#8)]), .nilslice, (.node [(u8 0#8), (u8 0#8), (u8 0#8)]), (.node [(arr 32 fun _ => 0#8), (arr 32 fun _ => 0#8)]), .nilslice, (.node [(u32 0#32), (u8 0#8), (.node [(arr 32 fun _ => 0#8), (arr 32 fun _ => 0#8)]), (arr 32 fun _ => 0#8), (u8 0#8), .nilslice, (.node [(u8 0#8), (u8 0#8), (u8 0#8)]), .nilslice]), (u32 0#32), (.node [(.node [(arr 32 fun _ => 0#8), (arr 32 fun _ => 0#8), (arr 32 fun _ => 0#8), (.node [(arr 32 fun _ => 0#8), .nilslice])]), (.node [(arr 32 fun _ => 0#8), (.node [(arr 32 fun _ => 0#8), .nilslice])])]), (.node [(arr 32 fun _ => 0#8), (arr 32 fun _ => 0#8), (arr 32 fun _ => 0#8), (arr 32 fun _ => 0#8), (arr 32 fun _ => 0#8), (.node [(arr 32 fun _ => 0#8), .nilslice])])]), none, none, false, none, false⟩),
  (66, ⟨(.int .i64), 8, (nat 0), none, some .i64, false, none, false⟩),
  (67, ⟨.cell, 24, .nilslice, some 100, none, false, none, false⟩),
  (69, ⟨tToken, 64, (.node [(arr 32 fun _ => 0#8), (arr 32 fun _ => 0#8)]), none, none, false, none, false⟩),
  (71, ⟨tGrant, 120, (.node [(.node [(arr 32 fun _ => 0#8), (arr 32 fun _ => 0#8)]), (.node [(arr 32 fun _ => 0#8), .nilslice])]), none, none, false, none, false⟩),
  (73, ⟨tReply, 384, (.node [(nat 0), (u8 0#8), (.node [(u32 0#32), (.node [(arr 32 fun _ => 0#8), (arr 32 fun _ => 0#8)]), .nilslice, (.node [(u8 0#8), (u8 0#8), (u8 0#8)]), .nilslice, .nilslice, .nilslice, .nilslice, .nilslice]), .nilslice, (.node [(.node [(arr 32 fun _ => 0#8), (arr 32 fun _ => 0#8)]), (.node [(arr 32 fun _ => 0#8), .nilslice])])]), none, none, false, none, false⟩),
  (87, ⟨tSeat, 72, (.node [(.node [(arr 32 fun _ => 0#8), (arr 32 fun _ => 0#8)]), (u8 0#8), (u32 0#32)]), none, none, false, none, false⟩),
  (90, ⟨tInvite, 129, (.node [(.node [(arr 32 fun _ => 0#8), (arr 32 fun _ => 0#8)]), (u8 0#8), (.node [(arr 32 fun _ => 0#8), (arr 32 fun _ => 0#8)])]), none, none, false, none, false⟩),
  (93, ⟨tAsk, 68, (.node [(.node [(arr 32 fun _ => 0#8), (arr 32 fun _ => 0#8)]), (u32 0#32)]), none, none, false, none, false⟩),
  (96, ⟨tBan, 128, (.node [(.node [(arr 32 fun _ => 0#8), (arr 32 fun _ => 0#8)]), (.node [(arr 32 fun _ => 0#8), (arr 32 fun _ => 0#8)])]), none, none, false, none, false⟩),
  (98, ⟨tSignature, 64, (.node [(arr 32 fun _ => 0#8), (arr 32 fun _ => 0#8)]), none, none, false, none, false⟩),
  (100, ⟨tDelta, 88, (.node [.nilslice, (.node [(arr 32 fun _ => 0#8), (arr 32 fun _ => 0#8)])]), none, none, false, none, false⟩),
  (110, ⟨tWriter, 32, (.node [.nilslice, (nat 0)]), none, none, false, none, false⟩),
  (112, ⟨tLwriter, 32, (.node [(.node [.nilslice, (nat 0)])]), none, none, false, none, false⟩),
  (113, ⟨.cell, 8, .nilptr, none, none, false, some 110, false⟩),
  (115, ⟨(.int .u64), 8, (u64 0#64), none, some .u64, false, none, false⟩),
  (143, ⟨tLhas, 6, (.node [(.bool false), (.bool false), (.bool false), (.bool false), (.bool false), (.bool false)]), none, none, false, none, false⟩)]
def TT : Nat → Option TI := tabOf ttl
theorem TT_ok : TTok Try.prog TT := ttB_ok (by kernel_rfl)
theorem mixed_ok : Try.prog.follows .mixedOrders = true := by kernel_rfl
end Go.Vab

/- How the seat's arguments are read. Printed by wip/tools/rd.py (own work). -/
namespace Go.Vas
open Go Go.Vab Go.Proofs

theorem ownV : ownKnob Try.prog.godebug = none := by kernel_rfl
theorem laidV : laidOutB Try.prog = true := by kernel_rfl
def okV : List TypeId := [5, 22, 24, 26, 27, 28, 29, 31, 32, 33, 34, 35, 37, 38, 40, 42, 87, 90, 93, 96]
theorem plainV : plainB Try.prog TT okV = true := by kernel_rfl
theorem boolV : Try.prog.underlying 4 = some .bool := by kernel_rfl
theorem tyOf {t : Nat} {i : TI} {u : Ty} (h : (match TT t with | some j => Ty.beq j.ty u | none => false) = true) (hti : TT t = some i) : i.ty = u := by
  rw [hti] at h
  exact Ty.beq_eq _ _ h
theorem und_u8 : Try.prog.underlying 5 = some (.int .u8) := by kernel_rfl
theorem und_role : Try.prog.underlying 28 = some (.int .u8) := by kernel_rfl
theorem und_link : Try.prog.underlying 29 = some (.int .u8) := by kernel_rfl
theorem und_kind : Try.prog.underlying 38 = some (.int .u8) := by kernel_rfl
theorem und_u32 : Try.prog.underlying 22 = some (.int .u32) := by kernel_rfl
theorem und_pt : Try.prog.underlying 24 = some (.array 32 5) := by kernel_rfl
theorem und_bs : Try.prog.underlying 27 = some (.slice 5) := by kernel_rfl
theorem und_seats : Try.prog.underlying 32 = some (.slice 87) := by kernel_rfl
theorem und_invites : Try.prog.underlying 33 = some (.slice 90) := by kernel_rfl
theorem und_asks : Try.prog.underlying 34 = some (.slice 93) := by kernel_rfl
theorem und_bans : Try.prog.underlying 35 = some (.slice 96) := by kernel_rfl
theorem ft_pub : ftys Try.prog 26 = some [24, 24] := by kernel_rfl
theorem ft_ci : ftys Try.prog 40 = some [24, 24] := by kernel_rfl
theorem ft_acc : ftys Try.prog 31 = some [28, 28, 29] := by kernel_rfl
theorem ft_seat : ftys Try.prog 87 = some [40, 28, 22] := by kernel_rfl
theorem ft_inv : ftys Try.prog 90 = some [40, 28, 40] := by kernel_rfl
theorem ft_ask : ftys Try.prog 93 = some [40, 22] := by kernel_rfl
theorem ft_ban : ftys Try.prog 96 = some [40, 40] := by kernel_rfl
theorem ft_st : ftys Try.prog 37 = some [22, 26, 27, 31, 27, 32, 33, 34, 35] := by kernel_rfl
theorem ft_act : ftys Try.prog 42 = some [22, 38, 40, 24, 28, 27, 31, 27] := by kernel_rfl
theorem rd_pt : Reads Try.prog TT 24 (.arr 32 (.int .u8)) pt := rdPt und_pt und_u8
theorem rd_pub : Reads Try.prog TT 26 tCipher eCi := rdCi ft_pub rd_pt
theorem rd_ci : Reads Try.prog TT 40 tCipher eCi := rdCi ft_ci rd_pt
theorem rd_acc : Reads Try.prog TT 31 tAccess eAcc := rdAcc ft_acc und_role und_link
theorem rd_bs : ReadsB Try.prog TT 27 := fun _ _ _ hr => rdB und_bs und_u8 (by kernel_rfl) (fun _ h => tyOf (by kernel_rfl) h) hr
theorem rd_seat : Reads Try.prog TT 87 tSeat eSeat := rdSeat ft_seat rd_ci und_role und_u32
theorem rd_inv : Reads Try.prog TT 90 tInvite eInv := rdInv ft_inv rd_ci und_role
theorem rd_ask : Reads Try.prog TT 93 tAsk eAsk := rdAsk ft_ask rd_ci und_u32
theorem rd_ban : Reads Try.prog TT 96 tBan eBan := rdBan ft_ban rd_ci
theorem rd_seats : ReadsR Try.prog TT 32 tSeat eSeat := fun _ _ _ hr => rdR und_seats (of_decide_eq_true (by kernel_rfl)) (fun _ h => tyOf (by kernel_rfl) h) ⟨_, tSeat_x⟩ rd_seat hr
theorem rd_invites : ReadsR Try.prog TT 33 tInvite eInv := fun _ _ _ hr => rdR und_invites (of_decide_eq_true (by kernel_rfl)) (fun _ h => tyOf (by kernel_rfl) h) ⟨_, tInvite_x⟩ rd_inv hr
theorem rd_asks : ReadsR Try.prog TT 34 tAsk eAsk := fun _ _ _ hr => rdR und_asks (of_decide_eq_true (by kernel_rfl)) (fun _ h => tyOf (by kernel_rfl) h) ⟨_, tAsk_x⟩ rd_ask hr
theorem rd_bans : ReadsR Try.prog TT 35 tBan eBan := fun _ _ _ hr => rdR und_bans (of_decide_eq_true (by kernel_rfl)) (fun _ h => tyOf (by kernel_rfl) h) ⟨_, tBan_x⟩ rd_ban hr
theorem rd_st {h : Heap} {n : Nat} {i : TI} {a : AV} (hti : TT 37 = some i) (ht : hasTy a i.ty = true) (hr : Rd Try.prog TT h n 37 a) : ∃ (x : Stt) (vt vp vs vi va vb : AV), a = eSt x vt vp vs vi va vb ∧ StR h x vt vp vs vi va vb :=
  rdState ft_st und_u32 rd_pub rd_bs rd_acc rd_seats rd_invites rd_asks rd_bans (by rw [tyOf (by kernel_rfl) hti] at ht; exact ht) hr
theorem rd_act {h : Heap} {n : Nat} {i : TI} {a : AV} (hti : TT 42 = some i) (ht : hasTy a i.ty = true) (hr : Rd Try.prog TT h n 42 a) : ∃ (x : Actn) (vt vp : AV), a = eAct x vt vp ∧ ActR h x vt vp :=
  rdAction ft_act und_u32 und_kind rd_ci rd_pt und_role rd_bs rd_acc (by rw [tyOf (by kernel_rfl) hti] at ht; exact ht) hr

end Go.Vas

/-
  Rows that are copied: new memory behind.
-/
namespace Go.Vab
open Go

/-- A row that lies behind the first m blocks. -/
def RowFrom (m : Nat) (u : Heap) (t : Ty) (y : AV) (vs : List AV) : Prop := ∀ F l : Heap, F.length = m → Row t (F ++ (u ++ l)) y vs
def BytFrom (m : Nat) (u : Heap) (y : AV) (b : Bs) : Prop := ∀ F l : Heap, F.length = m → BytL (F ++ (u ++ l)) y b

theorem RowFrom.app {m : Nat} {u : Heap} {t : Ty} {y : AV} {vs : List AV} (h : RowFrom m u t y vs) (e : Heap) : RowFrom m (u ++ e) t y vs := fun F l hF => by rw [List.append_assoc]; exact h F (e ++ l) hF
theorem BytFrom.app {m : Nat} {u : Heap} {y : AV} {b : Bs} (h : BytFrom m u y b) (e : Heap) : BytFrom m (u ++ e) y b := fun F l hF => by rw [List.append_assoc]; exact h F (e ++ l) hF
theorem RowFrom.at_ {m : Nat} {u : Heap} {t : Ty} {y : AV} {vs : List AV} (h : RowFrom m u t y vs) {F : Heap} (hF : F.length = m) : Row t (F ++ u) y vs := by simpa using h F [] hF
theorem BytFrom.at_ {m : Nat} {u : Heap} {y : AV} {b : Bs} (h : BytFrom m u y b) {F : Heap} (hF : F.length = m) : BytL (F ++ u) y b := by simpa using h F [] hF
theorem RowFrom.cell {m : Nat} {u : Heap} {t : Ty} {y : AV} {vs : List AV} (h : RowFrom m u t y vs) : hasTy y .cell = true := (h (List.replicate m ⟨.undef, 0, .own⟩) [] (by simp)).cell
theorem BytFrom.cell {m : Nat} {u : Heap} {y : AV} {b : Bs} (h : BytFrom m u y b) : hasTy y .cell = true := (h (List.replicate m ⟨.undef, 0, .own⟩) [] (by simp)).cell

theorem blkAt_behind {F F' u : Heap} {k ver : Nat} {b : Blk} (hF : F'.length = F.length) (hk : F.length ≤ k) (h : blkAt (F ++ u) k ver = some b) (l : Heap) : blkAt (F' ++ (u ++ l)) k ver = some b := by
  obtain ⟨k, rfl⟩ : ∃ j, k = F.length + j := ⟨k - F.length, by omega⟩
  rw [blkAt_new] at h
  rw [← hF, blkAt_new]
  exact blkAt_app h l

theorem mElems_behind {F F' u : Heap} {k ver : Nat} {path : List Nat} {t t' : Ty} {off len : Nat} {cap : Option Nat} {r : AV} (hF : F'.length = F.length) (hk : F.length ≤ k) (h : mElems t (.slice k ver path t' off len cap) (F ++ u) = some r) (l : Heap) :
    mElems t (.slice k ver path t' off len cap) (F' ++ (u ++ l)) = some r := by
  simp only [mElems] at h ⊢
  split at h
  · rename_i hb
    rw [if_pos hb]
    obtain ⟨b, h1, h2⟩ := bnd_eq_some.1 h
    rw [blkAt_behind hF hk h1 l, bnd_some]
    exact h2
  · cases h

@[simp] theorem rowLen_node (vs : List AV) : (AV.node vs).rowLen = some vs.length := rfl
@[simp] theorem join_node (vs us : List AV) : (AV.node vs).join (.node us) = some (.node (vs ++ us)) := rfl
@[simp] theorem cut_node_eq (vs : List AV) (off n : Nat) : (AV.node vs).cut off n = if off + n ≤ vs.length then some (.node ((vs.drop off).take n)) else none := rfl

@[simp] theorem cut_ints0 (k : IntKind) : (AV.ints k []).cut 0 0 = some (.ints k []) := rfl
theorem padRow_node {vs : List AV} {zero : AV} (hz : ∀ m, zeroRow m zero = .node (List.replicate m zero)) (m : Nat) : padRow (.node vs) zero m = some (.node (vs ++ List.replicate m zero)) := by
  unfold padRow; rw [hz]; rfl

/-- A new row with some room. -/
theorem fresh_from {t : Ty} {F u : Heap} {vs pad : List AV} {c : Nat} (hc : vs.length + pad.length = c) (hb : vs.length ≤ 140737488355328) :
    RowFrom F.length (u ++ [⟨.node (vs ++ pad), 0, .own⟩]) t (.slice (F ++ u).length 0 [] t 0 vs.length (some c)) vs := by
  intro F' l hF
  refine ⟨?_, ⟨rfl, by omega, rfl⟩, hb⟩
  rw [mElems_row]
  have : blkAt (F' ++ (u ++ [⟨.node (vs ++ pad), 0, .own⟩] ++ l)) (F ++ u).length 0 = some ⟨.node (vs ++ pad), 0, .own⟩ := by
    rw [List.length_append, ← hF, blkAt_new, List.append_assoc, blkAt_new0]
    simp
  rw [this]
  simp

theorem appW_copyR {t : Ty} {bytes : Nat} {zero : AV} {H F u : Heap} {x : AV} {vs : List AV} {k : Nat} {K : AV × Heap → Prop} (hH : H = F ++ u) (hz : ∀ m, zeroRow m zero = .node (List.replicate m zero))
    (hs : mElems t (.slice k 0 [] t 0 0 (some 0)) H = some (.node [])) (hx : Row t H x vs) (hb : vs.length * bytes ≤ roomBound) (hb3 : bytes ≤ 1000000) (hk : F.length ≤ k)
    (hK : ∀ y e, RowFrom F.length (u ++ e) t y vs → K (y, F ++ (u ++ e))) : appW t bytes zero (.slice k 0 [] t 0 0 (some 0)) x H K := by
  subst hH
  have hbd := hx.bound
  refine ⟨.node vs, vs.length, hx.1, rfl, .node [], .node vs, hs, rfl, ?_⟩
  by_cases h0 : vs.length = 0
  · have hv : vs = [] := List.eq_nil_of_length_eq_zero h0
    subst hv
    refine .inl ⟨h0, Nat.le_refl _, ?_⟩
    have := hK (.slice k 0 [] t 0 0 (some 0)) [] fun F' l hF => ⟨by simpa using mElems_behind hF hk hs l, ⟨rfl, Nat.le_refl _, rfl⟩, by simp⟩
    simpa using this
  · refine .inr (.inr ⟨by omega, by omega, by simpa using hb, by unfold roomBound; omega, hb3, fun c row hc hr => ?_⟩)
    rw [padRow_node hz] at hr
    cases hr
    simp only [Nat.zero_add] at hc ⊢
    have := hK _ _ (fresh_from (t := t) (F := F) (u := u) (pad := List.replicate (c - vs.length) zero) (c := c) (by simp; omega) hbd)
    rw [List.append_assoc]
    exact this

theorem strip_arr (l : Bs) (m : Nat) : (arr l.length (Bs.g l)).join (.ints .u8 (List.replicate m 0)) = some (arr (l.length + m) fun i => if i < l.length then l.g i else 0#8) := by
  have : (AV.ints .u8 (List.replicate m 0)) = arr m fun _ => 0#8 := by
    simp [arr, bytes, List.map_const']
  rw [this, arr_join]

theorem fresh_fromB {F u : Heap} {l : Bs} {c m : Nat} (hc : l.length + m = c) (hb : l.length ≤ 140737488355328) :
    BytFrom F.length (u ++ [⟨arr (l.length + m) fun i => if i < l.length then l.g i else 0#8, 0, .own⟩]) (.slice (F ++ u).length 0 [] (.int .u8) 0 l.length (some c)) l := by
  intro F' e hF
  refine ⟨⟨?_, ⟨rfl, by omega, rfl⟩⟩, hb⟩
  rw [mElems_slc]
  have : blkAt (F' ++ (u ++ [⟨arr (l.length + m) fun i => if i < l.length then l.g i else 0#8, 0, .own⟩] ++ e)) (F ++ u).length 0 = some ⟨arr (l.length + m) fun i => if i < l.length then l.g i else 0#8, 0, .own⟩ := by
    rw [List.length_append, ← hF, blkAt_new, List.append_assoc, blkAt_new0]
    simp
  rw [this]
  simp only [bnd_some, get_nil, arr_cut, Nat.zero_add]
  rw [if_pos (by omega)]
  congr 1
  exact arr_congr fun i hi => by simp [hi]

theorem appW_copyB {H F u : Heap} {x : AV} {l : Bs} {k : Nat} {K : AV × Heap → Prop} (hH : H = F ++ u) (hs : mElems (.int .u8) (.slice k 0 [] (.int .u8) 0 0 (some 0)) H = some (.ints .u8 [])) (hx : BytL H x l) (hk : F.length ≤ k)
    (hK : ∀ y e, BytFrom F.length (u ++ e) y l → K (y, F ++ (u ++ e))) : appW (.int .u8) 1 (u8 0#8) (.slice k 0 [] (.int .u8) 0 0 (some 0)) x H K := by
  subst hH
  have hbd := hx.bound
  have e0 : (AV.ints .u8 []).join (arr l.length (Bs.g l)) = some (arr l.length (Bs.g l)) := by simp [AV.join, arr, bytes]
  refine ⟨arr l.length (Bs.g l), l.length, hx.1.1, arr_rowLen _ _, .ints .u8 [], _, hs, e0, ?_⟩
  by_cases h0 : l.length = 0
  · have hv : l = [] := List.eq_nil_of_length_eq_zero h0
    subst hv
    refine .inl ⟨h0, Nat.le_refl _, ?_⟩
    have := hK (.slice k 0 [] (.int .u8) 0 0 (some 0)) [] fun F' e hF => ⟨⟨by simpa [arr, bytes] using mElems_behind hF hk hs e, ⟨rfl, Nat.le_refl _, rfl⟩⟩, by simp⟩
    simpa using this
  · refine .inr (.inr ⟨by omega, by omega, by unfold roomBound; omega, by unfold roomBound; omega, by omega, fun c row hc hr => ?_⟩)
    unfold padRow zeroRow u8 at hr
    simp only [BitVec.toNat_ofNat, Nat.zero_mod, Int.ofNat_zero, Nat.zero_add] at hr
    have hr2 : (arr l.length (Bs.g l)).join (.ints .u8 (List.replicate (c - l.length) 0)) = some row := hr
    rw [strip_arr] at hr2
    cases hr2
    simp only [Nat.zero_add] at hc ⊢
    have := hK _ _ (fresh_fromB (F := F) (u := u) (l := l) (c := c) (m := c - l.length) (by omega) hbd)
    rw [List.append_assoc]
    exact this

/-! the front: some cells -/
theorem RowFrom.at1 {h u : Heap} {A0 : Blk} {t : Ty} {y : AV} {vs : List AV} (hr : RowFrom (h.length + 1) u t y vs) (e : Heap) : Row t (h ++ (A0 :: (u ++ e))) y vs := by
  have := hr (h ++ [A0]) e (by simp)
  simpa using this
theorem BytFrom.at1 {h u : Heap} {A0 : Blk} {y : AV} {b : Bs} (hr : BytFrom (h.length + 1) u y b) (e : Heap) : BytL (h ++ (A0 :: (u ++ e))) y b := by
  have := hr (h ++ [A0]) e (by simp)
  simpa using this
theorem RowFrom.to1 {h u e H : Heap} {A0 : Blk} {t : Ty} {y : AV} {vs : List AV} (hr : RowFrom (h.length + 1) u t y vs) (hH : h ++ (A0 :: (u ++ e)) = H) : Row t H y vs := hH ▸ hr.at1 e
theorem BytFrom.to1 {h u e H : Heap} {A0 : Blk} {y : AV} {b : Bs} (hr : BytFrom (h.length + 1) u y b) (hH : h ++ (A0 :: (u ++ e)) = H) : BytL H y b := hH ▸ hr.at1 e
theorem copyR1 {t : Ty} {bytes : Nat} {zero : AV} {h u : Heap} {A0 : Blk} {x : AV} {vs : List AV} {k : Nat} {K : AV × Heap → Prop} (hz : ∀ m, zeroRow m zero = .node (List.replicate m zero))
    (hs : mElems t (.slice k 0 [] t 0 0 (some 0)) (h ++ (A0 :: u)) = some (.node [])) (hx : Row t (h ++ (A0 :: u)) x vs) (hb : vs.length * bytes ≤ roomBound) (hb3 : bytes ≤ 1000000) (hk : h.length + 1 ≤ k)
    (hK : ∀ y e, RowFrom (h.length + 1) (u ++ e) t y vs → K (y, h ++ (A0 :: (u ++ e)))) : appW t bytes zero (.slice k 0 [] t 0 0 (some 0)) x (h ++ (A0 :: u)) K :=
  appW_copyR (F := h ++ [A0]) (u := u) (by simp) hz hs hx hb hb3 (by simpa using hk) fun y e hr => by
    have := hK y e (by simpa using hr)
    simpa using this
theorem copyB1 {h u : Heap} {A0 : Blk} {x : AV} {l : Bs} {k : Nat} {K : AV × Heap → Prop}
    (hs : mElems (.int .u8) (.slice k 0 [] (.int .u8) 0 0 (some 0)) (h ++ (A0 :: u)) = some (.ints .u8 [])) (hx : BytL (h ++ (A0 :: u)) x l) (hk : h.length + 1 ≤ k)
    (hK : ∀ y e, BytFrom (h.length + 1) (u ++ e) y l → K (y, h ++ (A0 :: (u ++ e)))) : appW (.int .u8) 1 (u8 0#8) (.slice k 0 [] (.int .u8) 0 0 (some 0)) x (h ++ (A0 :: u)) K :=
  appW_copyB (F := h ++ [A0]) (u := u) (by simp) hs hx (by simpa using hk) fun y e hr => by
    have := hK y e (by simpa using hr)
    simpa using this
theorem RowFrom.at2 {h u : Heap} {A0 A1 : Blk} {t : Ty} {y : AV} {vs : List AV} (hr : RowFrom (h.length + 2) u t y vs) (e : Heap) : Row t (h ++ (A0 :: A1 :: (u ++ e))) y vs := by
  have := hr (h ++ [A0, A1]) e (by simp)
  simpa using this
theorem BytFrom.at2 {h u : Heap} {A0 A1 : Blk} {y : AV} {b : Bs} (hr : BytFrom (h.length + 2) u y b) (e : Heap) : BytL (h ++ (A0 :: A1 :: (u ++ e))) y b := by
  have := hr (h ++ [A0, A1]) e (by simp)
  simpa using this
theorem RowFrom.to2 {h u e H : Heap} {A0 A1 : Blk} {t : Ty} {y : AV} {vs : List AV} (hr : RowFrom (h.length + 2) u t y vs) (hH : h ++ (A0 :: A1 :: (u ++ e)) = H) : Row t H y vs := hH ▸ hr.at2 e
theorem BytFrom.to2 {h u e H : Heap} {A0 A1 : Blk} {y : AV} {b : Bs} (hr : BytFrom (h.length + 2) u y b) (hH : h ++ (A0 :: A1 :: (u ++ e)) = H) : BytL H y b := hH ▸ hr.at2 e
theorem copyR2 {t : Ty} {bytes : Nat} {zero : AV} {h u : Heap} {A0 A1 : Blk} {x : AV} {vs : List AV} {k : Nat} {K : AV × Heap → Prop} (hz : ∀ m, zeroRow m zero = .node (List.replicate m zero))
    (hs : mElems t (.slice k 0 [] t 0 0 (some 0)) (h ++ (A0 :: A1 :: u)) = some (.node [])) (hx : Row t (h ++ (A0 :: A1 :: u)) x vs) (hb : vs.length * bytes ≤ roomBound) (hb3 : bytes ≤ 1000000) (hk : h.length + 2 ≤ k)
    (hK : ∀ y e, RowFrom (h.length + 2) (u ++ e) t y vs → K (y, h ++ (A0 :: A1 :: (u ++ e)))) : appW t bytes zero (.slice k 0 [] t 0 0 (some 0)) x (h ++ (A0 :: A1 :: u)) K :=
  appW_copyR (F := h ++ [A0, A1]) (u := u) (by simp) hz hs hx hb hb3 (by simpa using hk) fun y e hr => by
    have := hK y e (by simpa using hr)
    simpa using this
theorem copyB2 {h u : Heap} {A0 A1 : Blk} {x : AV} {l : Bs} {k : Nat} {K : AV × Heap → Prop}
    (hs : mElems (.int .u8) (.slice k 0 [] (.int .u8) 0 0 (some 0)) (h ++ (A0 :: A1 :: u)) = some (.ints .u8 [])) (hx : BytL (h ++ (A0 :: A1 :: u)) x l) (hk : h.length + 2 ≤ k)
    (hK : ∀ y e, BytFrom (h.length + 2) (u ++ e) y l → K (y, h ++ (A0 :: A1 :: (u ++ e)))) : appW (.int .u8) 1 (u8 0#8) (.slice k 0 [] (.int .u8) 0 0 (some 0)) x (h ++ (A0 :: A1 :: u)) K :=
  appW_copyB (F := h ++ [A0, A1]) (u := u) (by simp) hs hx (by simpa using hk) fun y e hr => by
    have := hK y e (by simpa using hr)
    simpa using this
theorem RowFrom.at3 {h u : Heap} {A0 A1 A2 : Blk} {t : Ty} {y : AV} {vs : List AV} (hr : RowFrom (h.length + 3) u t y vs) (e : Heap) : Row t (h ++ (A0 :: A1 :: A2 :: (u ++ e))) y vs := by
  have := hr (h ++ [A0, A1, A2]) e (by simp)
  simpa using this
theorem BytFrom.at3 {h u : Heap} {A0 A1 A2 : Blk} {y : AV} {b : Bs} (hr : BytFrom (h.length + 3) u y b) (e : Heap) : BytL (h ++ (A0 :: A1 :: A2 :: (u ++ e))) y b := by
  have := hr (h ++ [A0, A1, A2]) e (by simp)
  simpa using this
theorem RowFrom.to3 {h u e H : Heap} {A0 A1 A2 : Blk} {t : Ty} {y : AV} {vs : List AV} (hr : RowFrom (h.length + 3) u t y vs) (hH : h ++ (A0 :: A1 :: A2 :: (u ++ e)) = H) : Row t H y vs := hH ▸ hr.at3 e
theorem BytFrom.to3 {h u e H : Heap} {A0 A1 A2 : Blk} {y : AV} {b : Bs} (hr : BytFrom (h.length + 3) u y b) (hH : h ++ (A0 :: A1 :: A2 :: (u ++ e)) = H) : BytL H y b := hH ▸ hr.at3 e
theorem copyR3 {t : Ty} {bytes : Nat} {zero : AV} {h u : Heap} {A0 A1 A2 : Blk} {x : AV} {vs : List AV} {k : Nat} {K : AV × Heap → Prop} (hz : ∀ m, zeroRow m zero = .node (List.replicate m zero))
    (hs : mElems t (.slice k 0 [] t 0 0 (some 0)) (h ++ (A0 :: A1 :: A2 :: u)) = some (.node [])) (hx : Row t (h ++ (A0 :: A1 :: A2 :: u)) x vs) (hb : vs.length * bytes ≤ roomBound) (hb3 : bytes ≤ 1000000) (hk : h.length + 3 ≤ k)
    (hK : ∀ y e, RowFrom (h.length + 3) (u ++ e) t y vs → K (y, h ++ (A0 :: A1 :: A2 :: (u ++ e)))) : appW t bytes zero (.slice k 0 [] t 0 0 (some 0)) x (h ++ (A0 :: A1 :: A2 :: u)) K :=
  appW_copyR (F := h ++ [A0, A1, A2]) (u := u) (by simp) hz hs hx hb hb3 (by simpa using hk) fun y e hr => by
    have := hK y e (by simpa using hr)
    simpa using this
theorem copyB3 {h u : Heap} {A0 A1 A2 : Blk} {x : AV} {l : Bs} {k : Nat} {K : AV × Heap → Prop}
    (hs : mElems (.int .u8) (.slice k 0 [] (.int .u8) 0 0 (some 0)) (h ++ (A0 :: A1 :: A2 :: u)) = some (.ints .u8 [])) (hx : BytL (h ++ (A0 :: A1 :: A2 :: u)) x l) (hk : h.length + 3 ≤ k)
    (hK : ∀ y e, BytFrom (h.length + 3) (u ++ e) y l → K (y, h ++ (A0 :: A1 :: A2 :: (u ++ e)))) : appW (.int .u8) 1 (u8 0#8) (.slice k 0 [] (.int .u8) 0 0 (some 0)) x (h ++ (A0 :: A1 :: A2 :: u)) K :=
  appW_copyB (F := h ++ [A0, A1, A2]) (u := u) (by simp) hs hx (by simpa using hk) fun y e hr => by
    have := hK y e (by simpa using hr)
    simpa using this
theorem RowFrom.at4 {h u : Heap} {A0 A1 A2 A3 : Blk} {t : Ty} {y : AV} {vs : List AV} (hr : RowFrom (h.length + 4) u t y vs) (e : Heap) : Row t (h ++ (A0 :: A1 :: A2 :: A3 :: (u ++ e))) y vs := by
  have := hr (h ++ [A0, A1, A2, A3]) e (by simp)
  simpa using this
theorem BytFrom.at4 {h u : Heap} {A0 A1 A2 A3 : Blk} {y : AV} {b : Bs} (hr : BytFrom (h.length + 4) u y b) (e : Heap) : BytL (h ++ (A0 :: A1 :: A2 :: A3 :: (u ++ e))) y b := by
  have := hr (h ++ [A0, A1, A2, A3]) e (by simp)
  simpa using this
theorem RowFrom.to4 {h u e H : Heap} {A0 A1 A2 A3 : Blk} {t : Ty} {y : AV} {vs : List AV} (hr : RowFrom (h.length + 4) u t y vs) (hH : h ++ (A0 :: A1 :: A2 :: A3 :: (u ++ e)) = H) : Row t H y vs := hH ▸ hr.at4 e
theorem BytFrom.to4 {h u e H : Heap} {A0 A1 A2 A3 : Blk} {y : AV} {b : Bs} (hr : BytFrom (h.length + 4) u y b) (hH : h ++ (A0 :: A1 :: A2 :: A3 :: (u ++ e)) = H) : BytL H y b := hH ▸ hr.at4 e
theorem copyR4 {t : Ty} {bytes : Nat} {zero : AV} {h u : Heap} {A0 A1 A2 A3 : Blk} {x : AV} {vs : List AV} {k : Nat} {K : AV × Heap → Prop} (hz : ∀ m, zeroRow m zero = .node (List.replicate m zero))
    (hs : mElems t (.slice k 0 [] t 0 0 (some 0)) (h ++ (A0 :: A1 :: A2 :: A3 :: u)) = some (.node [])) (hx : Row t (h ++ (A0 :: A1 :: A2 :: A3 :: u)) x vs) (hb : vs.length * bytes ≤ roomBound) (hb3 : bytes ≤ 1000000) (hk : h.length + 4 ≤ k)
    (hK : ∀ y e, RowFrom (h.length + 4) (u ++ e) t y vs → K (y, h ++ (A0 :: A1 :: A2 :: A3 :: (u ++ e)))) : appW t bytes zero (.slice k 0 [] t 0 0 (some 0)) x (h ++ (A0 :: A1 :: A2 :: A3 :: u)) K :=
  appW_copyR (F := h ++ [A0, A1, A2, A3]) (u := u) (by simp) hz hs hx hb hb3 (by simpa using hk) fun y e hr => by
    have := hK y e (by simpa using hr)
    simpa using this
theorem copyB4 {h u : Heap} {A0 A1 A2 A3 : Blk} {x : AV} {l : Bs} {k : Nat} {K : AV × Heap → Prop}
    (hs : mElems (.int .u8) (.slice k 0 [] (.int .u8) 0 0 (some 0)) (h ++ (A0 :: A1 :: A2 :: A3 :: u)) = some (.ints .u8 [])) (hx : BytL (h ++ (A0 :: A1 :: A2 :: A3 :: u)) x l) (hk : h.length + 4 ≤ k)
    (hK : ∀ y e, BytFrom (h.length + 4) (u ++ e) y l → K (y, h ++ (A0 :: A1 :: A2 :: A3 :: (u ++ e)))) : appW (.int .u8) 1 (u8 0#8) (.slice k 0 [] (.int .u8) 0 0 (some 0)) x (h ++ (A0 :: A1 :: A2 :: A3 :: u)) K :=
  appW_copyB (F := h ++ [A0, A1, A2, A3]) (u := u) (by simp) hs hx (by simpa using hk) fun y e hr => by
    have := hK y e (by simpa using hr)
    simpa using this
theorem RowFrom.at5 {h u : Heap} {A0 A1 A2 A3 A4 : Blk} {t : Ty} {y : AV} {vs : List AV} (hr : RowFrom (h.length + 5) u t y vs) (e : Heap) : Row t (h ++ (A0 :: A1 :: A2 :: A3 :: A4 :: (u ++ e))) y vs := by
  have := hr (h ++ [A0, A1, A2, A3, A4]) e (by simp)
  simpa using this
theorem BytFrom.at5 {h u : Heap} {A0 A1 A2 A3 A4 : Blk} {y : AV} {b : Bs} (hr : BytFrom (h.length + 5) u y b) (e : Heap) : BytL (h ++ (A0 :: A1 :: A2 :: A3 :: A4 :: (u ++ e))) y b := by
  have := hr (h ++ [A0, A1, A2, A3, A4]) e (by simp)
  simpa using this
theorem RowFrom.to5 {h u e H : Heap} {A0 A1 A2 A3 A4 : Blk} {t : Ty} {y : AV} {vs : List AV} (hr : RowFrom (h.length + 5) u t y vs) (hH : h ++ (A0 :: A1 :: A2 :: A3 :: A4 :: (u ++ e)) = H) : Row t H y vs := hH ▸ hr.at5 e
theorem BytFrom.to5 {h u e H : Heap} {A0 A1 A2 A3 A4 : Blk} {y : AV} {b : Bs} (hr : BytFrom (h.length + 5) u y b) (hH : h ++ (A0 :: A1 :: A2 :: A3 :: A4 :: (u ++ e)) = H) : BytL H y b := hH ▸ hr.at5 e
theorem copyR5 {t : Ty} {bytes : Nat} {zero : AV} {h u : Heap} {A0 A1 A2 A3 A4 : Blk} {x : AV} {vs : List AV} {k : Nat} {K : AV × Heap → Prop} (hz : ∀ m, zeroRow m zero = .node (List.replicate m zero))
    (hs : mElems t (.slice k 0 [] t 0 0 (some 0)) (h ++ (A0 :: A1 :: A2 :: A3 :: A4 :: u)) = some (.node [])) (hx : Row t (h ++ (A0 :: A1 :: A2 :: A3 :: A4 :: u)) x vs) (hb : vs.length * bytes ≤ roomBound) (hb3 : bytes ≤ 1000000) (hk : h.length + 5 ≤ k)
    (hK : ∀ y e, RowFrom (h.length + 5) (u ++ e) t y vs → K (y, h ++ (A0 :: A1 :: A2 :: A3 :: A4 :: (u ++ e)))) : appW t bytes zero (.slice k 0 [] t 0 0 (some 0)) x (h ++ (A0 :: A1 :: A2 :: A3 :: A4 :: u)) K :=
  appW_copyR (F := h ++ [A0, A1, A2, A3, A4]) (u := u) (by simp) hz hs hx hb hb3 (by simpa using hk) fun y e hr => by
    have := hK y e (by simpa using hr)
    simpa using this
theorem copyB5 {h u : Heap} {A0 A1 A2 A3 A4 : Blk} {x : AV} {l : Bs} {k : Nat} {K : AV × Heap → Prop}
    (hs : mElems (.int .u8) (.slice k 0 [] (.int .u8) 0 0 (some 0)) (h ++ (A0 :: A1 :: A2 :: A3 :: A4 :: u)) = some (.ints .u8 [])) (hx : BytL (h ++ (A0 :: A1 :: A2 :: A3 :: A4 :: u)) x l) (hk : h.length + 5 ≤ k)
    (hK : ∀ y e, BytFrom (h.length + 5) (u ++ e) y l → K (y, h ++ (A0 :: A1 :: A2 :: A3 :: A4 :: (u ++ e)))) : appW (.int .u8) 1 (u8 0#8) (.slice k 0 [] (.int .u8) 0 0 (some 0)) x (h ++ (A0 :: A1 :: A2 :: A3 :: A4 :: u)) K :=
  appW_copyB (F := h ++ [A0, A1, A2, A3, A4]) (u := u) (by simp) hs hx (by simpa using hk) fun y e hr => by
    have := hK y e (by simpa using hr)
    simpa using this

theorem RowFrom.to0 {h u e H : Heap} {t : Ty} {y : AV} {vs : List AV} (hr : RowFrom h.length u t y vs) (hH : h ++ (u ++ e) = H) : Row t H y vs := hH ▸ hr h e rfl
theorem BytFrom.to0 {h u e H : Heap} {y : AV} {b : Bs} (hr : BytFrom h.length u y b) (hH : h ++ (u ++ e) = H) : BytL H y b := hH ▸ hr h e rfl
theorem copyR0 {t : Ty} {bytes : Nat} {zero : AV} {h u : Heap} {x : AV} {vs : List AV} {k : Nat} {K : AV × Heap → Prop} (hz : ∀ m, zeroRow m zero = .node (List.replicate m zero))
    (hs : mElems t (.slice k 0 [] t 0 0 (some 0)) (h ++ u) = some (.node [])) (hx : Row t (h ++ u) x vs) (hb : vs.length * bytes ≤ roomBound) (hb3 : bytes ≤ 1000000) (hk : h.length ≤ k)
    (hK : ∀ y e, RowFrom h.length (u ++ e) t y vs → K (y, h ++ (u ++ e))) : appW t bytes zero (.slice k 0 [] t 0 0 (some 0)) x (h ++ u) K :=
  appW_copyR (F := h) (u := u) rfl hz hs hx hb hb3 hk hK
theorem copyB0 {h u : Heap} {x : AV} {l : Bs} {k : Nat} {K : AV × Heap → Prop}
    (hs : mElems (.int .u8) (.slice k 0 [] (.int .u8) 0 0 (some 0)) (h ++ u) = some (.ints .u8 [])) (hx : BytL (h ++ u) x l) (hk : h.length ≤ k)
    (hK : ∀ y e, BytFrom h.length (u ++ e) y l → K (y, h ++ (u ++ e))) : appW (.int .u8) 1 (u8 0#8) (.slice k 0 [] (.int .u8) 0 0 (some 0)) x (h ++ u) K :=
  appW_copyB (F := h) (u := u) rfl hs hx hk hK

/-! rows that are written out -/
@[simp] theorem build0_u8 (h : Heap) : mBuildSlice (.int .u8) (u8 0#8) 0 [] h = some (.slice h.length 0 [] (.int .u8) 0 0 (some 0), h ++ [⟨.ints .u8 [], 0, .own⟩]) := by
  simp [mBuildSlice, fillRow, zeroRow, u8, hasTy]
section
variable (h : Heap) (z x : Seat) (z2 x2 : Inv) (z3 x3 : Ask) (z4 x4 : Ban)
@[simp] theorem build0_Seat : mBuildSlice tSeat (eSeat z) 0 [] h = some (.slice h.length 0 [] tSeat 0 0 (some 0), h ++ [⟨.node [], 0, .own⟩]) := rfl
@[simp] theorem build0_Inv : mBuildSlice tInvite (eInv z2) 0 [] h = some (.slice h.length 0 [] tInvite 0 0 (some 0), h ++ [⟨.node [], 0, .own⟩]) := rfl
@[simp] theorem build0_Ask : mBuildSlice tAsk (eAsk z3) 0 [] h = some (.slice h.length 0 [] tAsk 0 0 (some 0), h ++ [⟨.node [], 0, .own⟩]) := rfl
@[simp] theorem build0_Ban : mBuildSlice tBan (eBan z4) 0 [] h = some (.slice h.length 0 [] tBan 0 0 (some 0), h ++ [⟨.node [], 0, .own⟩]) := rfl
theorem zrow_Seat (m : Nat) : zeroRow m (eSeat z) = .node (List.replicate m (eSeat z)) := rfl
theorem zrow_Inv (m : Nat) : zeroRow m (eInv z2) = .node (List.replicate m (eInv z2)) := rfl
theorem zrow_Ask (m : Nat) : zeroRow m (eAsk z3) = .node (List.replicate m (eAsk z3)) := rfl
theorem zrow_Ban (m : Nat) : zeroRow m (eBan z4) = .node (List.replicate m (eBan z4)) := rfl
end

end Go.Vab

/-
  What may be: roles, access, actions.
-/
namespace Go.Vab
open Go

def roleOk (r : BitVec 8) : Bool := decide (r = 1#8) || decide (r = 2#8)
def accOk (a : Acc) : Bool := roleOk a.title && roleOk a.members && decide (a.link ≤ 2#8)
def hW (k : BitVec 8) : Bool := decide (k = 1#8) || decide (k = 5#8) || decide (k = 9#8) || decide (k = 10#8)
def hE (k : BitVec 8) : Bool := decide (k = 3#8) || decide (k = 12#8) || decide (k = 2#8) || decide (k = 6#8) || decide (k = 13#8) || decide (k = 14#8) || decide (k = 15#8)
def hR (k : BitVec 8) : Bool := decide (k = 1#8) || decide (k = 5#8) || decide (k = 3#8) || decide (k = 12#8)
def hT (k : BitVec 8) : Bool := decide (k = 16#8)
def hA (k : BitVec 8) : Bool := decide (k = 17#8)
def hP (k : BitVec 8) : Bool := decide (k = 9#8) || decide (k = 10#8) || decide (k = 18#8)
def eHas (w e r t a p : Bool) : AV := .node [.bool w, .bool e, .bool r, .bool t, .bool a, .bool p]
def hasV (k : BitVec 8) : AV := eHas (hW k) (hE k) (hR k) (hT k) (hA k) (hP k)
section
variable (w e r t a p x : Bool) (q : List Nat)
@[simp] theorem hasTy_eHas : hasTy (eHas w e r t a p) tLhas = true := by simp [eHas]
@[simp] theorem eHas_get0 : (eHas w e r t a p).get (0 :: q) = (AV.bool w).get q := by simp [eHas]
@[simp] theorem eHas_get1 : (eHas w e r t a p).get (1 :: q) = (AV.bool e).get q := by simp [eHas]
@[simp] theorem eHas_get2 : (eHas w e r t a p).get (2 :: q) = (AV.bool r).get q := by simp [eHas]
@[simp] theorem eHas_get3 : (eHas w e r t a p).get (3 :: q) = (AV.bool t).get q := by simp [eHas]
@[simp] theorem eHas_get4 : (eHas w e r t a p).get (4 :: q) = (AV.bool a).get q := by simp [eHas]
@[simp] theorem eHas_get5 : (eHas w e r t a p).get (5 :: q) = (AV.bool p).get q := by simp [eHas]
@[simp] theorem eHas_put0 : (eHas w e r t a p).put [0] (.bool x) = some (eHas x e r t a p) := by simp [eHas]
@[simp] theorem eHas_put1 : (eHas w e r t a p).put [1] (.bool x) = some (eHas w x r t a p) := by simp [eHas]
@[simp] theorem eHas_put2 : (eHas w e r t a p).put [2] (.bool x) = some (eHas w e x t a p) := by simp [eHas]
@[simp] theorem eHas_put3 : (eHas w e r t a p).put [3] (.bool x) = some (eHas w e r x a p) := by simp [eHas]
@[simp] theorem eHas_put4 : (eHas w e r t a p).put [4] (.bool x) = some (eHas w e r t x p) := by simp [eHas]
@[simp] theorem eHas_put5 : (eHas w e r t a p).put [5] (.bool x) = some (eHas w e r t a x) := by simp [eHas]
@[simp] theorem fold_eHas : AV.node [.bool w, .bool e, .bool r, .bool t, .bool a, .bool p] = eHas w e r t a p := rfl
end

def mayA (a : Actn) : Bool :=
  !(decide (a.kind < 1#8) || decide (18#8 < a.kind) || decide (200 < a.title.length)) &&
  !((!hW a.kind && !decide (a.who = ci0)) || (!hE a.kind && !decide (a.e = pt0)) || (!(hR a.kind == roleOk a.role)) || (!hR a.kind && !decide (a.role = 0#8))) &&
  !((!hT a.kind && decide (0 < a.title.length)) || (hA a.kind && !accOk a.acc) || (!hA a.kind && !decide (a.acc = acc0))) &&
  ((decide (a.pass.length = 0) && (!hP a.kind || decide (a.kind = 18#8))) || (decide (a.pass.length = 16) && hP a.kind))

@[simp] theorem mUn_not (b : Bool) : mUn .not (.bool b) = some (.bool !b) := rfl
theorem fin_b0 {h : Heap} {b c : Bool} (hb : c = b) : ∃ t, (oneOrTuple [.bool c], h) = ((.bool b, h ++ t) : AV × Heap) := ⟨[], by simp [oneOrTuple, hb]⟩
/-! zero values, written out -/
@[simp] theorem zero_Ci : AV.node [pt pt0, pt pt0] = eCi ci0 := rfl
@[simp] theorem ci0_fold : (⟨pt0, pt0⟩ : Ci) = ci0 := rfl
@[simp] theorem acc0_fold : (⟨0#8, 0#8, 0#8⟩ : Acc) = acc0 := rfl
@[simp] theorem fillRow_nil (t : Ty) (r : AV) : fillRow t r [] = some r := rfl

end Go.Vab

/- How the code of a function is read. Printed by wip/tools/gen2.py (own work). -/
namespace Go.Vab
open Go Go.Proofs
/-! vestry/forms.role -/
def cx60 : Ctx := ⟨fun _ _ _ => none, TT, 9, [3, 4, 5, 6, 7, 8]⟩
noncomputable def n60_0 : Code := bodyOf Try.f60
noncomputable def n60_1 : Code := cR n60_0
noncomputable def n60_2 : Code := cR n60_1
theorem n60_2_eq (Q : Ex × St → Prop) (s : St) : wC Try.prog cx60 n60_2 Q s = Q (.ret, s) := yE
theorem n60_1_eq (Q : Ex × St → Prop) (env : Env) (h : Heap) : wC Try.prog cx60 n60_1 Q ⟨env, h⟩ = (Evs (mBin .eql (env.get 0) (u8 1#8)) fun v1 => Evs (gv v1 false (some (env.get 0))) fun v3 => Evs (gv v1 false (mBin .eql v3 (u8 2#8))) fun v4 => Evs (mPick v1 (.bool true) v4) fun v5 => wC Try.prog cx60 n60_2 Q ⟨(Env.put env 2 v5), h⟩) := (ySR 1 (cOps (cL n60_1)) (cR n60_1)).trans (by
  refine w0 ?_
  refine wT 3 (env.get 0) ?_
  refine wP 4 fun v1 => ?_
  refine wT 5 v1 ?_
  refine wG 6 fun v3 => ?_
  refine wG 7 fun v4 => ?_
  refine wP 8 fun v5 => ?_
  refine wT 2 v5 ?_
  exact wE)
theorem n60_0_eq (Q : Ex × St → Prop) (env : Env) (h : Heap) : wC Try.prog cx60 n60_0 Q ⟨env, h⟩ = ( wC Try.prog cx60 n60_1 Q ⟨(Env.put env 2 (.bool false)), h⟩) := (ySR 0 (cOps (cL n60_0)) (cR n60_0)).trans (by
  refine w0 ?_
  refine wT 2 (.bool false) ?_
  exact wE)
theorem fn60 : Try.prog.funcs[60]? = some Try.f60 := by kernel_rfl
theorem q60 {a0 : AV} {h : Heap} {K : AV × Heap → Prop} (H : ∀ env : Env, env.get 0 = a0 → wC Try.prog cx60 n60_0 (retW (fun s => (bnd (some (s.env.get 2)) fun v => bnd (some []) fun vs => some (v :: vs))) K) ⟨env, h⟩) : SpecQ Try.prog 60 [a0] h K :=
  bodyW_sound (C := cx60) TT_ok mixed_ok fn60 (by kernel_rfl) (show _ = some n60_0 by kernel_rfl) (by kernel_rfl) (by kernel_rfl) (of_decide_eq_true (by kernel_rfl)) ((show wC Try.prog cx60 n60_0 (retW (fun s => resAll cx60 s Try.f60.results.toList) K) ⟨env0 cx60 [a0], h⟩ = wC Try.prog cx60 n60_0 (retW (fun s => (bnd (some (s.env.get 2)) fun v => bnd (some []) fun vs => some (v :: vs))) K) ⟨[(0, a0), (1, .junk), (2, .junk)], h⟩ by kernel_rfl).mpr (H [(0, a0), (1, .junk), (2, .junk)] rfl))
def sn60 := And.intro n60_2_eq (And.intro n60_1_eq (n60_0_eq))
-- draws: 
end Go.Vab

/- How the code of a function is read. Printed by wip/tools/gen2.py (own work). -/
namespace Go.Vab
open Go Go.Proofs
/-! vestry/forms.mayAccess -/
def cx49 : Ctx := ⟨fun _ _ _ => none, TT, 16, [3, 4, 5, 6, 7, 8, 9, 10, 11, 12, 13, 14, 15]⟩
noncomputable def n49_0 : Code := bodyOf Try.f49
noncomputable def n49_1 : Code := cR n49_0
noncomputable def n49_2 : Code := cR n49_1
theorem n49_2_eq (Q : Ex × St → Prop) (s : St) : wC Try.prog cx49 n49_2 Q s = Q (.ret, s) := yE
theorem n49_1_eq (Q : Ex × St → Prop) (env : Env) (h : Heap) : wC Try.prog cx49 n49_1 Q ⟨env, h⟩ = (Evs (mFieldAddr tAccess (env.get 1) 0) fun v0 => Evs (mLoad (.int .u8) v0 h) fun v1 => SpecA Try.prog 60 [v1] h fun r2 => Evs (gv r2.1 true (mFieldAddr tAccess (env.get 1) 1)) fun v4 => Evs (gv r2.1 true (mLoad (.int .u8) v4 r2.2)) fun v5 => gW r2.1 true (SpecA Try.prog 60 [v5] r2.2) r2.2 fun r6 => Evs (mPick r2.1 r6.1 (.bool false)) fun v7 => Evs (gv v7 true (mFieldAddr tAccess (env.get 1) 2)) fun v9 => Evs (gv v7 true (mLoad (.int .u8) v9 r6.2)) fun v10 => Evs (gv v7 true (mBin .leq v10 (u8 2#8))) fun v11 => Evs (mPick v7 v11 (.bool false)) fun v12 => wC Try.prog cx49 n49_2 Q ⟨(Env.put env 2 v12), r6.2⟩) := (ySR 1 (cOps (cL n49_1)) (cR n49_1)).trans (by
  refine w0 ?_
  refine wP 3 fun v0 => ?_
  refine wP 4 fun v1 => ?_
  refine wH 5 fun r2 => ?_
  refine wT 6 r2.1 ?_
  refine wG 7 fun v4 => ?_
  refine wG 8 fun v5 => ?_
  refine wH 9 fun r6 => ?_
  refine wP 10 fun v7 => ?_
  refine wT 11 v7 ?_
  refine wG 12 fun v9 => ?_
  refine wG 13 fun v10 => ?_
  refine wG 14 fun v11 => ?_
  refine wP 15 fun v12 => ?_
  refine wT 2 v12 ?_
  exact wE)
theorem n49_0_eq (Q : Ex × St → Prop) (env : Env) (h : Heap) : wC Try.prog cx49 n49_0 Q ⟨env, h⟩ = (Evs (mNew tAccess (env.get 0) h) fun r0 => wC Try.prog cx49 n49_1 Q ⟨(Env.put (Env.put env 1 r0.1) 2 (.bool false)), r0.2⟩) := (ySR 0 (cOps (cL n49_0)) (cR n49_0)).trans (by
  refine w0 ?_
  refine wH 1 fun r0 => ?_
  refine wT 2 (.bool false) ?_
  exact wE)
theorem fn49 : Try.prog.funcs[49]? = some Try.f49 := by kernel_rfl
theorem q49 {a0 : AV} {h : Heap} {K : AV × Heap → Prop} (H : ∀ env : Env, env.get 0 = a0 → wC Try.prog cx49 n49_0 (retW (fun s => (bnd (some (s.env.get 2)) fun v => bnd (some []) fun vs => some (v :: vs))) K) ⟨env, h⟩) : SpecQ Try.prog 49 [a0] h K :=
  bodyW_sound (C := cx49) TT_ok mixed_ok fn49 (by kernel_rfl) (show _ = some n49_0 by kernel_rfl) (by kernel_rfl) (by kernel_rfl) (of_decide_eq_true (by kernel_rfl)) ((show wC Try.prog cx49 n49_0 (retW (fun s => resAll cx49 s Try.f49.results.toList) K) ⟨env0 cx49 [a0], h⟩ = wC Try.prog cx49 n49_0 (retW (fun s => (bnd (some (s.env.get 2)) fun v => bnd (some []) fun vs => some (v :: vs))) K) ⟨[(0, a0), (1, .junk), (2, .junk)], h⟩ by kernel_rfl).mpr (H [(0, a0), (1, .junk), (2, .junk)] rfl))
def sn49 := And.intro n49_2_eq (And.intro n49_1_eq (n49_0_eq))
-- draws: 
end Go.Vab

/- How the code of a function is read. Printed by wip/tools/gen2.py (own work). -/
namespace Go.Vab
open Go Go.Proofs
/-! vestry/forms.fields -/
def cx65 : Ctx := ⟨fun _ _ _ => none, TT, 34, [5, 6, 8, 9, 11, 13, 14, 16, 17, 18, 19, 20, 22, 24, 25, 26, 27, 28, 29, 30, 31, 32, 33]⟩
noncomputable def n65_0 : Code := bodyOf Try.f65
noncomputable def n65_1 : Code := cR n65_0
noncomputable def n65_2 : Code := cL n65_1
noncomputable def n65_3 : Code := cR n65_2
noncomputable def n65_4 : Code := cB n65_3
noncomputable def n65_5 : Code := cL n65_4
noncomputable def n65_6 : Code := cB n65_5
noncomputable def n65_7 : Code := cL n65_6
noncomputable def n65_8 : Code := cB n65_7
noncomputable def n65_9 : Code := cL n65_8
noncomputable def n65_10 : Code := cB n65_9
noncomputable def n65_11 : Code := cL n65_10
noncomputable def n65_12 : Code := cB n65_11
noncomputable def n65_13 : Code := cL n65_12
noncomputable def n65_14 : Code := cB n65_13
noncomputable def n65_15 : Code := cL n65_14
noncomputable def n65_16 : Code := cB n65_15
noncomputable def n65_17 : Code := cL n65_16
noncomputable def n65_18 : Code := cB n65_17
noncomputable def n65_19 : Code := cL n65_18
noncomputable def n65_20 : Code := cL n65_19
noncomputable def n65_21 : Code := cL n65_20
noncomputable def n65_22 : Code := cR n65_21
noncomputable def n65_23 : Code := cL n65_22
noncomputable def n65_24 : Code := cR n65_22
noncomputable def n65_25 : Code := cR n65_20
noncomputable def n65_26 : Code := cL n65_25
noncomputable def n65_27 : Code := cR n65_25
noncomputable def n65_28 : Code := cR n65_19
noncomputable def n65_29 : Code := cL n65_28
noncomputable def n65_30 : Code := cL n65_29
noncomputable def n65_31 : Code := cR n65_30
noncomputable def n65_32 : Code := cL n65_31
noncomputable def n65_33 : Code := cR n65_31
noncomputable def n65_34 : Code := cR n65_29
noncomputable def n65_35 : Code := cL n65_34
noncomputable def n65_36 : Code := cR n65_34
noncomputable def n65_37 : Code := cR n65_28
noncomputable def n65_38 : Code := cL n65_37
noncomputable def n65_39 : Code := cR n65_38
noncomputable def n65_40 : Code := cL n65_39
noncomputable def n65_41 : Code := cR n65_39
noncomputable def n65_42 : Code := cR n65_37
noncomputable def n65_43 : Code := cL n65_42
noncomputable def n65_44 : Code := cL n65_43
noncomputable def n65_45 : Code := cR n65_44
noncomputable def n65_46 : Code := cL n65_45
noncomputable def n65_47 : Code := cR n65_45
noncomputable def n65_48 : Code := cR n65_43
noncomputable def n65_49 : Code := cL n65_48
noncomputable def n65_50 : Code := cR n65_48
noncomputable def n65_51 : Code := cR n65_42
noncomputable def n65_52 : Code := cL n65_51
noncomputable def n65_53 : Code := cL n65_52
noncomputable def n65_54 : Code := cR n65_53
noncomputable def n65_55 : Code := cL n65_54
noncomputable def n65_56 : Code := cR n65_54
noncomputable def n65_57 : Code := cR n65_56
noncomputable def n65_58 : Code := cL n65_57
noncomputable def n65_59 : Code := cR n65_57
noncomputable def n65_60 : Code := cR n65_59
noncomputable def n65_61 : Code := cL n65_60
noncomputable def n65_62 : Code := cR n65_60
noncomputable def n65_63 : Code := cR n65_62
noncomputable def n65_64 : Code := cL n65_63
noncomputable def n65_65 : Code := cR n65_63
noncomputable def n65_66 : Code := cR n65_52
noncomputable def n65_67 : Code := cL n65_66
noncomputable def n65_68 : Code := cR n65_66
noncomputable def n65_69 : Code := cR n65_51
noncomputable def n65_70 : Code := cL n65_69
noncomputable def n65_71 : Code := cR n65_70
noncomputable def n65_72 : Code := cL n65_71
noncomputable def n65_73 : Code := cR n65_71
noncomputable def n65_74 : Code := cR n65_69
noncomputable def n65_75 : Code := cR n65_74
noncomputable def n65_76 : Code := cL n65_75
noncomputable def n65_77 : Code := cR n65_75
noncomputable def n65_78 : Code := cR n65_18
noncomputable def n65_79 : Code := cR n65_16
noncomputable def n65_80 : Code := cR n65_79
noncomputable def n65_81 : Code := cR n65_14
noncomputable def n65_82 : Code := cR n65_12
noncomputable def n65_83 : Code := cR n65_82
noncomputable def n65_84 : Code := cR n65_10
noncomputable def n65_85 : Code := cR n65_8
noncomputable def n65_86 : Code := cR n65_85
noncomputable def n65_87 : Code := cR n65_6
noncomputable def n65_88 : Code := cR n65_87
noncomputable def n65_89 : Code := cR n65_4
noncomputable def n65_90 : Code := cR n65_89
noncomputable def n65_91 : Code := cR n65_1
noncomputable def n65_92 : Code := cR n65_91
theorem n65_23_eq (Q : Ex × St → Prop) (s : St) : wC Try.prog cx65 n65_23 Q s = Q (.nrm, s) := yK
theorem n65_24_eq (Q : Ex × St → Prop) (env : Env) (h : Heap) : wC Try.prog cx65 n65_24 Q ⟨env, h⟩ = (Evs (mBin .eql (env.get 3) (u8 5#8)) fun v0 => Q (.nrm, ⟨(Env.put env 4 v0), h⟩)) := (yR 3 (cOps n65_24)).trans (by
  refine w0 ?_
  refine wP 6 fun v0 => ?_
  refine wT 4 v0 ?_
  exact wE)
theorem n65_22_eq (Q : Ex × St → Prop) (s : St) : wC Try.prog cx65 n65_22 Q s = cndW (s.env.get 4) (wL Try.prog cx65 n65_23 Q s) (wL Try.prog cx65 n65_24 Q s) := yC 4 _ _
theorem n65_21_eq (Q : Ex × St → Prop) (env : Env) (h : Heap) : wC Try.prog cx65 n65_21 Q ⟨env, h⟩ = (Evs (mBin .eql (env.get 3) (u8 1#8)) fun v0 => wC Try.prog cx65 n65_22 Q ⟨(Env.put env 4 v0), h⟩) := (ySR 2 (cOps (cL n65_21)) (cR n65_21)).trans (by
  refine w0 ?_
  refine wP 5 fun v0 => ?_
  refine wT 4 v0 ?_
  exact wE)
theorem n65_26_eq (Q : Ex × St → Prop) (s : St) : wC Try.prog cx65 n65_26 Q s = Q (.exit 1, s) := yX 1
theorem n65_27_eq (Q : Ex × St → Prop) (s : St) : wC Try.prog cx65 n65_27 Q s = Q (.nrm, s) := yK
theorem n65_25_eq (Q : Ex × St → Prop) (s : St) : wC Try.prog cx65 n65_25 Q s = cndW (s.env.get 4) (wL Try.prog cx65 n65_26 Q s) (wL Try.prog cx65 n65_27 Q s) := yC 4 _ _
theorem n65_20_eq (Q : Ex × St → Prop) (s : St) : wC Try.prog cx65 n65_20 Q s = wC Try.prog cx65 n65_21 (sqW (wC Try.prog cx65 n65_25) Q) s := yS _ _
theorem n65_32_eq (Q : Ex × St → Prop) (s : St) : wC Try.prog cx65 n65_32 Q s = Q (.nrm, s) := yK
theorem n65_33_eq (Q : Ex × St → Prop) (env : Env) (h : Heap) : wC Try.prog cx65 n65_33 Q ⟨env, h⟩ = (Evs (mBin .eql (env.get 3) (u8 10#8)) fun v0 => Q (.nrm, ⟨(Env.put env 7 v0), h⟩)) := (yR 5 (cOps n65_33)).trans (by
  refine w0 ?_
  refine wP 9 fun v0 => ?_
  refine wT 7 v0 ?_
  exact wE)
theorem n65_31_eq (Q : Ex × St → Prop) (s : St) : wC Try.prog cx65 n65_31 Q s = cndW (s.env.get 7) (wL Try.prog cx65 n65_32 Q s) (wL Try.prog cx65 n65_33 Q s) := yC 7 _ _
theorem n65_30_eq (Q : Ex × St → Prop) (env : Env) (h : Heap) : wC Try.prog cx65 n65_30 Q ⟨env, h⟩ = (Evs (mBin .eql (env.get 3) (u8 9#8)) fun v0 => wC Try.prog cx65 n65_31 Q ⟨(Env.put env 7 v0), h⟩) := (ySR 4 (cOps (cL n65_30)) (cR n65_30)).trans (by
  refine w0 ?_
  refine wP 8 fun v0 => ?_
  refine wT 7 v0 ?_
  exact wE)
theorem n65_35_eq (Q : Ex × St → Prop) (s : St) : wC Try.prog cx65 n65_35 Q s = Q (.exit 2, s) := yX 2
theorem n65_36_eq (Q : Ex × St → Prop) (s : St) : wC Try.prog cx65 n65_36 Q s = Q (.nrm, s) := yK
theorem n65_34_eq (Q : Ex × St → Prop) (s : St) : wC Try.prog cx65 n65_34 Q s = cndW (s.env.get 7) (wL Try.prog cx65 n65_35 Q s) (wL Try.prog cx65 n65_36 Q s) := yC 7 _ _
theorem n65_29_eq (Q : Ex × St → Prop) (s : St) : wC Try.prog cx65 n65_29 Q s = wC Try.prog cx65 n65_30 (sqW (wC Try.prog cx65 n65_34) Q) s := yS _ _
theorem n65_40_eq (Q : Ex × St → Prop) (s : St) : wC Try.prog cx65 n65_40 Q s = Q (.exit 3, s) := yX 3
theorem n65_41_eq (Q : Ex × St → Prop) (s : St) : wC Try.prog cx65 n65_41 Q s = Q (.nrm, s) := yK
theorem n65_39_eq (Q : Ex × St → Prop) (s : St) : wC Try.prog cx65 n65_39 Q s = cndW (s.env.get 10) (wL Try.prog cx65 n65_40 Q s) (wL Try.prog cx65 n65_41 Q s) := yC 10 _ _
theorem n65_38_eq (Q : Ex × St → Prop) (env : Env) (h : Heap) : wC Try.prog cx65 n65_38 Q ⟨env, h⟩ = (Evs (mBin .eql (env.get 3) (u8 18#8)) fun v0 => wC Try.prog cx65 n65_39 Q ⟨(Env.put env 10 v0), h⟩) := (ySR 6 (cOps (cL n65_38)) (cR n65_38)).trans (by
  refine w0 ?_
  refine wP 11 fun v0 => ?_
  refine wT 10 v0 ?_
  exact wE)
theorem n65_46_eq (Q : Ex × St → Prop) (s : St) : wC Try.prog cx65 n65_46 Q s = Q (.nrm, s) := yK
theorem n65_47_eq (Q : Ex × St → Prop) (env : Env) (h : Heap) : wC Try.prog cx65 n65_47 Q ⟨env, h⟩ = (Evs (mBin .eql (env.get 3) (u8 12#8)) fun v0 => Q (.nrm, ⟨(Env.put env 12 v0), h⟩)) := (yR 8 (cOps n65_47)).trans (by
  refine w0 ?_
  refine wP 14 fun v0 => ?_
  refine wT 12 v0 ?_
  exact wE)
theorem n65_45_eq (Q : Ex × St → Prop) (s : St) : wC Try.prog cx65 n65_45 Q s = cndW (s.env.get 12) (wL Try.prog cx65 n65_46 Q s) (wL Try.prog cx65 n65_47 Q s) := yC 12 _ _
theorem n65_44_eq (Q : Ex × St → Prop) (env : Env) (h : Heap) : wC Try.prog cx65 n65_44 Q ⟨env, h⟩ = (Evs (mBin .eql (env.get 3) (u8 3#8)) fun v0 => wC Try.prog cx65 n65_45 Q ⟨(Env.put env 12 v0), h⟩) := (ySR 7 (cOps (cL n65_44)) (cR n65_44)).trans (by
  refine w0 ?_
  refine wP 13 fun v0 => ?_
  refine wT 12 v0 ?_
  exact wE)
theorem n65_49_eq (Q : Ex × St → Prop) (s : St) : wC Try.prog cx65 n65_49 Q s = Q (.exit 4, s) := yX 4
theorem n65_50_eq (Q : Ex × St → Prop) (s : St) : wC Try.prog cx65 n65_50 Q s = Q (.nrm, s) := yK
theorem n65_48_eq (Q : Ex × St → Prop) (s : St) : wC Try.prog cx65 n65_48 Q s = cndW (s.env.get 12) (wL Try.prog cx65 n65_49 Q s) (wL Try.prog cx65 n65_50 Q s) := yC 12 _ _
theorem n65_43_eq (Q : Ex × St → Prop) (s : St) : wC Try.prog cx65 n65_43 Q s = wC Try.prog cx65 n65_44 (sqW (wC Try.prog cx65 n65_48) Q) s := yS _ _
theorem n65_55_eq (Q : Ex × St → Prop) (s : St) : wC Try.prog cx65 n65_55 Q s = Q (.nrm, s) := yK
theorem n65_58_eq (Q : Ex × St → Prop) (s : St) : wC Try.prog cx65 n65_58 Q s = Q (.nrm, s) := yK
theorem n65_61_eq (Q : Ex × St → Prop) (s : St) : wC Try.prog cx65 n65_61 Q s = Q (.nrm, s) := yK
theorem n65_64_eq (Q : Ex × St → Prop) (s : St) : wC Try.prog cx65 n65_64 Q s = Q (.nrm, s) := yK
theorem n65_65_eq (Q : Ex × St → Prop) (env : Env) (h : Heap) : wC Try.prog cx65 n65_65 Q ⟨env, h⟩ = (Evs (mBin .eql (env.get 3) (u8 15#8)) fun v0 => Q (.nrm, ⟨(Env.put env 15 v0), h⟩)) := (yR 13 (cOps n65_65)).trans (by
  refine w0 ?_
  refine wP 20 fun v0 => ?_
  refine wT 15 v0 ?_
  exact wE)
theorem n65_63_eq (Q : Ex × St → Prop) (s : St) : wC Try.prog cx65 n65_63 Q s = cndW (s.env.get 15) (wL Try.prog cx65 n65_64 Q s) (wL Try.prog cx65 n65_65 Q s) := yC 15 _ _
theorem n65_62_eq (Q : Ex × St → Prop) (env : Env) (h : Heap) : wC Try.prog cx65 n65_62 Q ⟨env, h⟩ = (Evs (mBin .eql (env.get 3) (u8 14#8)) fun v0 => wC Try.prog cx65 n65_63 Q ⟨(Env.put env 15 v0), h⟩) := (ySR 12 (cOps (cL n65_62)) (cR n65_62)).trans (by
  refine w0 ?_
  refine wP 19 fun v0 => ?_
  refine wT 15 v0 ?_
  exact wE)
theorem n65_60_eq (Q : Ex × St → Prop) (s : St) : wC Try.prog cx65 n65_60 Q s = cndW (s.env.get 15) (wL Try.prog cx65 n65_61 Q s) (wL Try.prog cx65 n65_62 Q s) := yC 15 _ _
theorem n65_59_eq (Q : Ex × St → Prop) (env : Env) (h : Heap) : wC Try.prog cx65 n65_59 Q ⟨env, h⟩ = (Evs (mBin .eql (env.get 3) (u8 13#8)) fun v0 => wC Try.prog cx65 n65_60 Q ⟨(Env.put env 15 v0), h⟩) := (ySR 11 (cOps (cL n65_59)) (cR n65_59)).trans (by
  refine w0 ?_
  refine wP 18 fun v0 => ?_
  refine wT 15 v0 ?_
  exact wE)
theorem n65_57_eq (Q : Ex × St → Prop) (s : St) : wC Try.prog cx65 n65_57 Q s = cndW (s.env.get 15) (wL Try.prog cx65 n65_58 Q s) (wL Try.prog cx65 n65_59 Q s) := yC 15 _ _
theorem n65_56_eq (Q : Ex × St → Prop) (env : Env) (h : Heap) : wC Try.prog cx65 n65_56 Q ⟨env, h⟩ = (Evs (mBin .eql (env.get 3) (u8 6#8)) fun v0 => wC Try.prog cx65 n65_57 Q ⟨(Env.put env 15 v0), h⟩) := (ySR 10 (cOps (cL n65_56)) (cR n65_56)).trans (by
  refine w0 ?_
  refine wP 17 fun v0 => ?_
  refine wT 15 v0 ?_
  exact wE)
theorem n65_54_eq (Q : Ex × St → Prop) (s : St) : wC Try.prog cx65 n65_54 Q s = cndW (s.env.get 15) (wL Try.prog cx65 n65_55 Q s) (wL Try.prog cx65 n65_56 Q s) := yC 15 _ _
theorem n65_53_eq (Q : Ex × St → Prop) (env : Env) (h : Heap) : wC Try.prog cx65 n65_53 Q ⟨env, h⟩ = (Evs (mBin .eql (env.get 3) (u8 2#8)) fun v0 => wC Try.prog cx65 n65_54 Q ⟨(Env.put env 15 v0), h⟩) := (ySR 9 (cOps (cL n65_53)) (cR n65_53)).trans (by
  refine w0 ?_
  refine wP 16 fun v0 => ?_
  refine wT 15 v0 ?_
  exact wE)
theorem n65_67_eq (Q : Ex × St → Prop) (s : St) : wC Try.prog cx65 n65_67 Q s = Q (.exit 5, s) := yX 5
theorem n65_68_eq (Q : Ex × St → Prop) (s : St) : wC Try.prog cx65 n65_68 Q s = Q (.nrm, s) := yK
theorem n65_66_eq (Q : Ex × St → Prop) (s : St) : wC Try.prog cx65 n65_66 Q s = cndW (s.env.get 15) (wL Try.prog cx65 n65_67 Q s) (wL Try.prog cx65 n65_68 Q s) := yC 15 _ _
theorem n65_52_eq (Q : Ex × St → Prop) (s : St) : wC Try.prog cx65 n65_52 Q s = wC Try.prog cx65 n65_53 (sqW (wC Try.prog cx65 n65_66) Q) s := yS _ _
theorem n65_72_eq (Q : Ex × St → Prop) (s : St) : wC Try.prog cx65 n65_72 Q s = Q (.exit 6, s) := yX 6
theorem n65_73_eq (Q : Ex × St → Prop) (s : St) : wC Try.prog cx65 n65_73 Q s = Q (.nrm, s) := yK
theorem n65_71_eq (Q : Ex × St → Prop) (s : St) : wC Try.prog cx65 n65_71 Q s = cndW (s.env.get 21) (wL Try.prog cx65 n65_72 Q s) (wL Try.prog cx65 n65_73 Q s) := yC 21 _ _
theorem n65_70_eq (Q : Ex × St → Prop) (env : Env) (h : Heap) : wC Try.prog cx65 n65_70 Q ⟨env, h⟩ = (Evs (mBin .eql (env.get 3) (u8 16#8)) fun v0 => wC Try.prog cx65 n65_71 Q ⟨(Env.put env 21 v0), h⟩) := (ySR 14 (cOps (cL n65_70)) (cR n65_70)).trans (by
  refine w0 ?_
  refine wP 22 fun v0 => ?_
  refine wT 21 v0 ?_
  exact wE)
theorem n65_76_eq (Q : Ex × St → Prop) (s : St) : wC Try.prog cx65 n65_76 Q s = Q (.exit 7, s) := yX 7
theorem n65_77_eq (Q : Ex × St → Prop) (s : St) : wC Try.prog cx65 n65_77 Q s = Q (.nrm, s) := yK
theorem n65_75_eq (Q : Ex × St → Prop) (s : St) : wC Try.prog cx65 n65_75 Q s = cndW (s.env.get 23) (wL Try.prog cx65 n65_76 Q s) (wL Try.prog cx65 n65_77 Q s) := yC 23 _ _
theorem n65_74_eq (Q : Ex × St → Prop) (env : Env) (h : Heap) : wC Try.prog cx65 n65_74 Q ⟨env, h⟩ = (Evs (mBin .eql (env.get 3) (u8 17#8)) fun v0 => wC Try.prog cx65 n65_75 Q ⟨(Env.put env 23 v0), h⟩) := (ySR 15 (cOps (cL n65_74)) (cR n65_74)).trans (by
  refine w0 ?_
  refine wP 24 fun v0 => ?_
  refine wT 23 v0 ?_
  exact wE)
theorem n65_69_eq (Q : Ex × St → Prop) (s : St) : wC Try.prog cx65 n65_69 Q s = wC Try.prog cx65 n65_70 (sqW (wC Try.prog cx65 n65_74) Q) s := yS _ _
theorem n65_51_eq (Q : Ex × St → Prop) (s : St) : wC Try.prog cx65 n65_51 Q s = wC Try.prog cx65 n65_52 (sqW (wC Try.prog cx65 n65_69) Q) s := yS _ _
theorem n65_42_eq (Q : Ex × St → Prop) (s : St) : wC Try.prog cx65 n65_42 Q s = wC Try.prog cx65 n65_43 (sqW (wC Try.prog cx65 n65_51) Q) s := yS _ _
theorem n65_37_eq (Q : Ex × St → Prop) (s : St) : wC Try.prog cx65 n65_37 Q s = wC Try.prog cx65 n65_38 (sqW (wC Try.prog cx65 n65_42) Q) s := yS _ _
theorem n65_28_eq (Q : Ex × St → Prop) (s : St) : wC Try.prog cx65 n65_28 Q s = wC Try.prog cx65 n65_29 (sqW (wC Try.prog cx65 n65_37) Q) s := yS _ _
theorem n65_19_eq (Q : Ex × St → Prop) (s : St) : wC Try.prog cx65 n65_19 Q s = wC Try.prog cx65 n65_20 (sqW (wC Try.prog cx65 n65_28) Q) s := yS _ _
theorem n65_78_eq (Q : Ex × St → Prop) (s : St) : wC Try.prog cx65 n65_78 Q s = Q (.exit 0, s) := yX 0
theorem n65_18_eq (Q : Ex × St → Prop) (s : St) : wC Try.prog cx65 n65_18 Q s = wC Try.prog cx65 n65_19 (sqW (wC Try.prog cx65 n65_78) Q) s := yS _ _
theorem n65_17_eq (Q : Ex × St → Prop) (s : St) : wC Try.prog cx65 n65_17 Q s = wC Try.prog cx65 n65_18 (fun r => Q (inBlk 1 r)) s := yB 1 _
theorem n65_80_eq (Q : Ex × St → Prop) (s : St) : wC Try.prog cx65 n65_80 Q s = Q (.exit 0, s) := yX 0
theorem n65_79_eq (Q : Ex × St → Prop) (env : Env) (h : Heap) : wC Try.prog cx65 n65_79 Q ⟨env, h⟩ = (Evs (mFieldAddr tLhas (env.get 2) 0) fun v0 => Evs (stU .cell v0 (.bool true) h) fun r1 => Evs (mFieldAddr tLhas (env.get 2) 2) fun v2 => Evs (stU .cell v2 (.bool true) r1.2) fun r3 => wC Try.prog cx65 n65_80 Q ⟨env, r3.2⟩) := (ySR 16 (cOps (cL n65_79)) (cR n65_79)).trans (by
  refine w0 ?_
  refine wP 25 fun v0 => ?_
  refine wHn fun r1 => ?_
  refine wP 26 fun v2 => ?_
  refine wHn fun r3 => ?_
  exact wE)
theorem n65_16_eq (Q : Ex × St → Prop) (s : St) : wC Try.prog cx65 n65_16 Q s = wC Try.prog cx65 n65_17 (sqW (wC Try.prog cx65 n65_79) Q) s := yS _ _
theorem n65_15_eq (Q : Ex × St → Prop) (s : St) : wC Try.prog cx65 n65_15 Q s = wC Try.prog cx65 n65_16 (fun r => Q (inBlk 2 r)) s := yB 2 _
theorem n65_81_eq (Q : Ex × St → Prop) (env : Env) (h : Heap) : wC Try.prog cx65 n65_81 Q ⟨env, h⟩ = (Evs (mFieldAddr tLhas (env.get 2) 0) fun v0 => Evs (stU .cell v0 (.bool true) h) fun r1 => Q (.nrm, ⟨env, r1.2⟩)) := (yR 17 (cOps n65_81)).trans (by
  refine w0 ?_
  refine wP 27 fun v0 => ?_
  refine wHn fun r1 => ?_
  exact wE)
theorem n65_14_eq (Q : Ex × St → Prop) (s : St) : wC Try.prog cx65 n65_14 Q s = wC Try.prog cx65 n65_15 (sqW (wC Try.prog cx65 n65_81) Q) s := yS _ _
theorem n65_13_eq (Q : Ex × St → Prop) (s : St) : wC Try.prog cx65 n65_13 Q s = wC Try.prog cx65 n65_14 (fun r => Q (inBlk 3 r)) s := yB 3 _
theorem n65_83_eq (Q : Ex × St → Prop) (s : St) : wC Try.prog cx65 n65_83 Q s = Q (.exit 0, s) := yX 0
theorem n65_82_eq (Q : Ex × St → Prop) (env : Env) (h : Heap) : wC Try.prog cx65 n65_82 Q ⟨env, h⟩ = (Evs (mFieldAddr tLhas (env.get 2) 5) fun v0 => Evs (stU .cell v0 (.bool true) h) fun r1 => wC Try.prog cx65 n65_83 Q ⟨env, r1.2⟩) := (ySR 18 (cOps (cL n65_82)) (cR n65_82)).trans (by
  refine w0 ?_
  refine wP 28 fun v0 => ?_
  refine wHn fun r1 => ?_
  exact wE)
theorem n65_12_eq (Q : Ex × St → Prop) (s : St) : wC Try.prog cx65 n65_12 Q s = wC Try.prog cx65 n65_13 (sqW (wC Try.prog cx65 n65_82) Q) s := yS _ _
theorem n65_11_eq (Q : Ex × St → Prop) (s : St) : wC Try.prog cx65 n65_11 Q s = wC Try.prog cx65 n65_12 (fun r => Q (inBlk 4 r)) s := yB 4 _
theorem n65_84_eq (Q : Ex × St → Prop) (env : Env) (h : Heap) : wC Try.prog cx65 n65_84 Q ⟨env, h⟩ = (Evs (mFieldAddr tLhas (env.get 2) 2) fun v0 => Evs (stU .cell v0 (.bool true) h) fun r1 => Q (.nrm, ⟨env, r1.2⟩)) := (yR 19 (cOps n65_84)).trans (by
  refine w0 ?_
  refine wP 29 fun v0 => ?_
  refine wHn fun r1 => ?_
  exact wE)
theorem n65_10_eq (Q : Ex × St → Prop) (s : St) : wC Try.prog cx65 n65_10 Q s = wC Try.prog cx65 n65_11 (sqW (wC Try.prog cx65 n65_84) Q) s := yS _ _
theorem n65_9_eq (Q : Ex × St → Prop) (s : St) : wC Try.prog cx65 n65_9 Q s = wC Try.prog cx65 n65_10 (fun r => Q (inBlk 5 r)) s := yB 5 _
theorem n65_86_eq (Q : Ex × St → Prop) (s : St) : wC Try.prog cx65 n65_86 Q s = Q (.exit 0, s) := yX 0
theorem n65_85_eq (Q : Ex × St → Prop) (env : Env) (h : Heap) : wC Try.prog cx65 n65_85 Q ⟨env, h⟩ = (Evs (mFieldAddr tLhas (env.get 2) 1) fun v0 => Evs (stU .cell v0 (.bool true) h) fun r1 => wC Try.prog cx65 n65_86 Q ⟨env, r1.2⟩) := (ySR 20 (cOps (cL n65_85)) (cR n65_85)).trans (by
  refine w0 ?_
  refine wP 30 fun v0 => ?_
  refine wHn fun r1 => ?_
  exact wE)
theorem n65_8_eq (Q : Ex × St → Prop) (s : St) : wC Try.prog cx65 n65_8 Q s = wC Try.prog cx65 n65_9 (sqW (wC Try.prog cx65 n65_85) Q) s := yS _ _
theorem n65_7_eq (Q : Ex × St → Prop) (s : St) : wC Try.prog cx65 n65_7 Q s = wC Try.prog cx65 n65_8 (fun r => Q (inBlk 6 r)) s := yB 6 _
theorem n65_88_eq (Q : Ex × St → Prop) (s : St) : wC Try.prog cx65 n65_88 Q s = Q (.exit 0, s) := yX 0
theorem n65_87_eq (Q : Ex × St → Prop) (env : Env) (h : Heap) : wC Try.prog cx65 n65_87 Q ⟨env, h⟩ = (Evs (mFieldAddr tLhas (env.get 2) 3) fun v0 => Evs (stU .cell v0 (.bool true) h) fun r1 => wC Try.prog cx65 n65_88 Q ⟨env, r1.2⟩) := (ySR 21 (cOps (cL n65_87)) (cR n65_87)).trans (by
  refine w0 ?_
  refine wP 31 fun v0 => ?_
  refine wHn fun r1 => ?_
  exact wE)
theorem n65_6_eq (Q : Ex × St → Prop) (s : St) : wC Try.prog cx65 n65_6 Q s = wC Try.prog cx65 n65_7 (sqW (wC Try.prog cx65 n65_87) Q) s := yS _ _
theorem n65_5_eq (Q : Ex × St → Prop) (s : St) : wC Try.prog cx65 n65_5 Q s = wC Try.prog cx65 n65_6 (fun r => Q (inBlk 7 r)) s := yB 7 _
theorem n65_90_eq (Q : Ex × St → Prop) (s : St) : wC Try.prog cx65 n65_90 Q s = Q (.exit 0, s) := yX 0
theorem n65_89_eq (Q : Ex × St → Prop) (env : Env) (h : Heap) : wC Try.prog cx65 n65_89 Q ⟨env, h⟩ = (Evs (mFieldAddr tLhas (env.get 2) 4) fun v0 => Evs (stU .cell v0 (.bool true) h) fun r1 => wC Try.prog cx65 n65_90 Q ⟨env, r1.2⟩) := (ySR 22 (cOps (cL n65_89)) (cR n65_89)).trans (by
  refine w0 ?_
  refine wP 32 fun v0 => ?_
  refine wHn fun r1 => ?_
  exact wE)
theorem n65_4_eq (Q : Ex × St → Prop) (s : St) : wC Try.prog cx65 n65_4 Q s = wC Try.prog cx65 n65_5 (sqW (wC Try.prog cx65 n65_89) Q) s := yS _ _
theorem n65_3_eq (Q : Ex × St → Prop) (s : St) : wC Try.prog cx65 n65_3 Q s = wC Try.prog cx65 n65_4 (fun r => Q (inBlk 0 r)) s := yB 0 _
theorem n65_2_eq (Q : Ex × St → Prop) (env : Env) (h : Heap) : wC Try.prog cx65 n65_2 Q ⟨env, h⟩ = ( wC Try.prog cx65 n65_3 Q ⟨(Env.put env 3 (env.get 0)), h⟩) := (ySR 1 (cOps (cL n65_2)) (cR n65_2)).trans (by
  refine w0 ?_
  refine wT 3 (env.get 0) ?_
  exact wE)
theorem n65_92_eq (Q : Ex × St → Prop) (s : St) : wC Try.prog cx65 n65_92 Q s = Q (.ret, s) := yE
theorem n65_91_eq (Q : Ex × St → Prop) (env : Env) (h : Heap) : wC Try.prog cx65 n65_91 Q ⟨env, h⟩ = (Evs (mLoad tLhas (env.get 2) h) fun v0 => Evs (stU tLhas (env.get 2) v0 h) fun r1 => wC Try.prog cx65 n65_92 Q ⟨env, r1.2⟩) := (ySR 23 (cOps (cL n65_91)) (cR n65_91)).trans (by
  refine w0 ?_
  refine wP 33 fun v0 => ?_
  refine wHn fun r1 => ?_
  exact wE)
theorem n65_1_eq (Q : Ex × St → Prop) (s : St) : wC Try.prog cx65 n65_1 Q s = wC Try.prog cx65 n65_2 (sqW (wC Try.prog cx65 n65_91) Q) s := yS _ _
theorem n65_0_eq (Q : Ex × St → Prop) (env : Env) (h : Heap) : wC Try.prog cx65 n65_0 Q ⟨env, h⟩ = (Evs (mNew tLhas (.node [(.bool false), (.bool false), (.bool false), (.bool false), (.bool false), (.bool false)]) h) fun r0 => wC Try.prog cx65 n65_1 Q ⟨(Env.put env 2 r0.1), r0.2⟩) := (ySR 0 (cOps (cL n65_0)) (cR n65_0)).trans (by
  refine w0 ?_
  refine wH 2 fun r0 => ?_
  exact wE)
theorem fn65 : Try.prog.funcs[65]? = some Try.f65 := by kernel_rfl
set_option maxHeartbeats 4000000 in
theorem q65 {a0 : AV} {h : Heap} {K : AV × Heap → Prop} (H : ∀ env : Env, env.get 0 = a0 → wC Try.prog cx65 n65_0 (retW (fun s => (bnd (mLoad tLhas (s.env.get 2) s.heap) fun v => bnd (some []) fun vs => some (v :: vs))) K) ⟨env, h⟩) : SpecQ Try.prog 65 [a0] h K :=
  bodyW_sound (C := cx65) TT_ok mixed_ok fn65 (by kernel_rfl) (show _ = some n65_0 by kernel_rfl) (by kernel_rfl) (by kernel_rfl) (of_decide_eq_true (by kernel_rfl)) ((show wC Try.prog cx65 n65_0 (retW (fun s => resAll cx65 s Try.f65.results.toList) K) ⟨env0 cx65 [a0], h⟩ = wC Try.prog cx65 n65_0 (retW (fun s => (bnd (mLoad tLhas (s.env.get 2) s.heap) fun v => bnd (some []) fun vs => some (v :: vs))) K) ⟨[(0, a0), (1, .junk), (2, .junk), (3, .junk), (4, .junk), (7, .junk), (10, .junk), (12, .junk), (15, .junk), (21, .junk), (23, .junk)], h⟩ by kernel_rfl).mpr (H [(0, a0), (1, .junk), (2, .junk), (3, .junk), (4, .junk), (7, .junk), (10, .junk), (12, .junk), (15, .junk), (21, .junk), (23, .junk)] rfl))
set_option maxHeartbeats 4000000 in
def sn65 := And.intro n65_23_eq (And.intro n65_24_eq (And.intro n65_22_eq (And.intro n65_21_eq (And.intro n65_26_eq (And.intro n65_27_eq (And.intro n65_25_eq (And.intro n65_20_eq (And.intro n65_32_eq (And.intro n65_33_eq (And.intro n65_31_eq (And.intro n65_30_eq (And.intro n65_35_eq (And.intro n65_36_eq (And.intro n65_34_eq (And.intro n65_29_eq (And.intro n65_40_eq (And.intro n65_41_eq (And.intro n65_39_eq (And.intro n65_38_eq (And.intro n65_46_eq (And.intro n65_47_eq (And.intro n65_45_eq (And.intro n65_44_eq (And.intro n65_49_eq (And.intro n65_50_eq (And.intro n65_48_eq (And.intro n65_43_eq (And.intro n65_55_eq (And.intro n65_58_eq (And.intro n65_61_eq (And.intro n65_64_eq (And.intro n65_65_eq (And.intro n65_63_eq (And.intro n65_62_eq (And.intro n65_60_eq (And.intro n65_59_eq (And.intro n65_57_eq (And.intro n65_56_eq (And.intro n65_54_eq (And.intro n65_53_eq (And.intro n65_67_eq (And.intro n65_68_eq (And.intro n65_66_eq (And.intro n65_52_eq (And.intro n65_72_eq (And.intro n65_73_eq (And.intro n65_71_eq (And.intro n65_70_eq (And.intro n65_76_eq (And.intro n65_77_eq (And.intro n65_75_eq (And.intro n65_74_eq (And.intro n65_69_eq (And.intro n65_51_eq (And.intro n65_42_eq (And.intro n65_37_eq (And.intro n65_28_eq (And.intro n65_19_eq (And.intro n65_78_eq (And.intro n65_18_eq (And.intro n65_17_eq (And.intro n65_80_eq (And.intro n65_79_eq (And.intro n65_16_eq (And.intro n65_15_eq (And.intro n65_81_eq (And.intro n65_14_eq (And.intro n65_13_eq (And.intro n65_83_eq (And.intro n65_82_eq (And.intro n65_12_eq (And.intro n65_11_eq (And.intro n65_84_eq (And.intro n65_10_eq (And.intro n65_9_eq (And.intro n65_86_eq (And.intro n65_85_eq (And.intro n65_8_eq (And.intro n65_7_eq (And.intro n65_88_eq (And.intro n65_87_eq (And.intro n65_6_eq (And.intro n65_5_eq (And.intro n65_90_eq (And.intro n65_89_eq (And.intro n65_4_eq (And.intro n65_3_eq (And.intro n65_2_eq (And.intro n65_92_eq (And.intro n65_91_eq (And.intro n65_1_eq (n65_0_eq))))))))))))))))))))))))))))))))))))))))))))))))))))))))))))))))))))))))))))))))))))))))))))
-- draws: 
end Go.Vab
