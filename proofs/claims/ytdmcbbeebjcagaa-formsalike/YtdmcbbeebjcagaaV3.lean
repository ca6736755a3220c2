/-
  The reading of the arguments again, with the form's own reach beside each slice.
-/
import Derived.Test.YtdmcbbeebjcagaaV2
import Derived.SizedLaws
set_option linter.all false
set_option linter.unusedSectionVars false
namespace Go.Vas
open Go Go.Vab

/-- What a value of a type may be that was read. -/
def Rd (P : Program) (tt : Nat → Option TI) (h : Heap) : Nat → TypeId → AV → Prop
  | 0, _, _ => False
  | n + 1, t, v => match P.underlying t with
    | some .bool => ∃ b, v = .bool b
    | some (.int k) => ∃ x, v = .int k x ∧ (Lit.int k x).wf = true
    | some .string => ∃ s, v = .str s ∧ s.size ≤ maxLen
    | some (.slice e) => v = .nilslice ∨ ∃ i el row m len cap, v = .slice i 0 [] el.ty 0 len (some cap) ∧ tt e = some el ∧ h[i]? = some ⟨row, 0, m⟩ ∧ hasTy row (.arr cap el.ty) = true ∧ len ≤ cap ∧ cap ≤ maxLen ∧ len * P.bytesOf e ≤ reachBytes ∧
        ∀ j, j < cap → ∃ x, row.get [j] = some x ∧ Rd P tt h n e x
    | some (.struct fs) => ∃ vs, v = .node vs ∧ ∀ (f : Nat) x, fs[f]? = some x → ∃ y, vs[f]? = some y ∧ Rd P tt h n x.type y
    | some (.array m e) => ∀ j, j < m → ∃ x, v.get [j] = some x ∧ Rd P tt h n e x
    | _ => False

theorem Rd.app {P : Program} {tt : Nat → Option TI} {h : Heap} (l : Heap) : ∀ (n : Nat) (t : TypeId) (v : AV), Rd P tt h n t v → Rd P tt (h ++ l) n t v
  | 0, _, _, hr => hr
  | n + 1, t, v, hr => by
    unfold Rd at hr ⊢
    split at hr
    · exact hr
    · exact hr
    · exact hr
    · rcases hr with hr | ⟨i, el, row, m, len, cap, h1, h2, h3, h4, h5, h6, hw, h7⟩
      · exact .inl hr
      · exact .inr ⟨i, el, row, m, len, cap, h1, h2, by rw [List.getElem?_append_left (List.getElem?_eq_some_iff.1 h3).1]; exact h3, h4, h5, h6, hw, fun j hj => let ⟨x, hx, hy⟩ := h7 j hj; ⟨x, hx, Rd.app l n _ _ hy⟩⟩
    · obtain ⟨vs, h1, h2⟩ := hr
      exact ⟨vs, h1, fun f x hx => let ⟨y, hy, hz⟩ := h2 f x hx; ⟨y, hy, Rd.app l n _ _ hz⟩⟩
    · intro j hj
      obtain ⟨x, hx, hy⟩ := hr j hj
      exact ⟨x, hx, Rd.app l n _ _ hy⟩
    · exact hr


section
variable {H : Type} {enc : TypeId × Value → H} {P : Program} {tt : Nat → Option TI} {ok : List TypeId} {w : World}

theorem mem_weightsAll {e : TypeId} {d : DataW H} : ∀ {l : List (DataW H)}, d ∈ l → ∀ {m : Nat}, m ∈ DataW.weights P e d → m ∈ DataW.weightsAll P e l
  | x :: l, hd, m, hm => by
    simp only [DataW.weightsAll, List.mem_append]
    rcases List.mem_cons.1 hd with rfl | h
    · exact .inl hm
    · exact .inr (mem_weightsAll h hm)
theorem mem_weightsEach {d : DataW H} {t : TypeId} : ∀ {ts : List TypeId} {l : List (DataW H)} {i : Nat}, ts[i]? = some t → l[i]? = some d → ∀ {m : Nat}, m ∈ DataW.weights P t d → m ∈ DataW.weightsEach P ts l
  | t' :: ts, x :: l, 0, ht, hd, m, hm => by
    simp at ht hd
    subst ht hd
    simp only [DataW.weightsEach, List.mem_append]
    exact .inl hm
  | t' :: ts, x :: l, i + 1, ht, hd, m, hm => by
    simp only [DataW.weightsEach, List.mem_append]
    exact .inr (mem_weightsEach (i := i) (by simpa using ht) (by simpa using hd) hm)
  | [], _, _, ht, _, _, _ => by simp at ht
  | _ :: _, [], _, _, hd, _, _ => by simp at hd

/-- What was read of a cell row is an abstract value, over some more memory that is only read. -/
def Read (P : Program) (tt : Nat → Option TI) (w : World) (n : Nat) (t : TypeId) (cs : List Value) : Prop :=
  ∀ E h, RelHeap E h w → NoOwn E h → ∀ i, tt t = some i → ∃ E' l v, RelHeap E' (h ++ l) w ∧ NoOwn E' (h ++ l) ∧ Ext E E' ∧ VRl E' v cs ∧ hasTy v i.ty = true ∧ Rd P tt (h ++ l) n t v

/-- Several of them, one behind the other. -/
theorem Read.list {n : Nat} : ∀ (items : List (TypeId × List Value)), (∀ x ∈ items, Read P tt w n x.1 x.2) → (∀ x ∈ items, ∃ i, tt x.1 = some i) →
    ∀ E h, RelHeap E h w → NoOwn E h → ∃ E' l vs, RelHeap E' (h ++ l) w ∧ NoOwn E' (h ++ l) ∧ Ext E E' ∧ VRs E' vs (items.flatMap (·.2)) ∧ vs.length = items.length ∧
      ∀ (j : Nat) x, items[j]? = some x → ∃ v i, vs[j]? = some v ∧ tt x.1 = some i ∧ hasTy v i.ty = true ∧ VRl E' v x.2 ∧ Rd P tt (h ++ l) n x.1 v
  | [], _, _, E, h, R, N => ⟨E, [], [], by simpa using R, by simpa using N, Ext.refl E, by simp [VRs], rfl, fun j x hx => by simp at hx⟩
  | x :: items, hr, ht, E, h, R, N => by
    obtain ⟨i, hi⟩ := ht x (List.mem_cons_self ..)
    obtain ⟨E1, l1, v, R1, N1, X1, V1, T1, D1⟩ := hr x (List.mem_cons_self ..) E h R N i hi
    obtain ⟨E2, l2, vs, R2, N2, X2, V2, L2, D2⟩ := Read.list items (fun y hy => hr y (List.mem_cons_of_mem _ hy)) (fun y hy => ht y (List.mem_cons_of_mem _ hy)) E1 (h ++ l1) R1 N1
    refine ⟨E2, l1 ++ l2, v :: vs, by rw [← List.append_assoc]; exact R2, by rw [← List.append_assoc]; exact N2, X1.trans X2, ?_, by simp [L2], fun j y hy => ?_⟩
    · rw [List.flatMap_cons]; exact VRs.cons (VRl.mono X2 _ _ V1) V2
    · rw [← List.append_assoc]
      cases j with
      | zero =>
        simp at hy; subst hy
        exact ⟨v, i, rfl, hi, T1, VRl.mono X2 _ _ V1, Rd.app l2 _ _ _ D1⟩
      | succ j =>
        simp only [List.getElem?_cons_succ] at hy ⊢
        exact D2 j y hy

theorem read_ok (T : TTok P tt) (hok : plainB P tt ok = true) : ∀ (n : Nat) (t : TypeId) (cs : List Value) (x : DataW H × List MemPlace), ok.contains t = true →
    DataW.trod enc P w 0 (fun _ => true) true n t cs = some x → (∀ m ∈ DataW.weights P t x.1, m ≤ reachBytes) → Read P tt w n t cs
  | 0, t, cs, x, _, h, _ => by simp [DataW.trod] at h
  | n + 1, t, cs, x, hm, h, hwt => by
    intro E hp R N i hi
    have hok2 := hok
    simp only [plainB, Bool.and_eq_true, List.all_eq_true] at hok
    have hb := hok.1 t (by simpa using hm)
    unfold plainTypeB at hb
    rw [hi] at hb
    have keep : ∀ v : AV, VRl E v cs → hasTy v i.ty = true → Rd P tt (hp ++ []) (n + 1) t v → ∃ E' l v, RelHeap E' (hp ++ l) w ∧ NoOwn E' (hp ++ l) ∧ Ext E E' ∧ VRl E' v cs ∧ hasTy v i.ty = true ∧ Rd P tt (hp ++ l) (n + 1) t v :=
      fun v h1 h2 h3 => ⟨E, [], v, by simpa using R, by simpa using N, Ext.refl E, h1, h2, h3⟩
    cases hu : P.underlying t with
    | none => rw [hu] at hb; simp at hb
    | some d =>
      rw [hu] at hb
      cases d <;> try (simp only [Bool.false_eq_true] at hb; done)
      case bool =>
        obtain ⟨b, rfl, _⟩ := DataW.trod_bool hu h
        have hty := Ty.beq_eq _ _ hb
        exact keep (.bool b) (by simp only [VRl]) (by rw [hty]; rfl) (by simp only [Rd, hu]; exact ⟨_, rfl⟩)
      case string =>
        obtain ⟨b, rfl, _, hm⟩ := DataW.trod_string hu h
        have hty := Ty.beq_eq _ _ hb
        exact keep (.str b) (by simp only [VRl]) (by rw [hty]; rfl) (by simp only [Rd, hu]; exact ⟨_, rfl, hm⟩)
      case int k =>
        obtain ⟨b, rfl, _, hm⟩ := DataW.trod_int hu h
        have hty := Ty.beq_eq _ _ hb
        exact keep (.int k b) (by simp only [VRl]) (by rw [hty]; simp [hasTy]) (by simp only [Rd, hu]; exact ⟨_, rfl, hm⟩)
      case slice e =>
        simp only [Bool.and_eq_true] at hb
        obtain ⟨⟨hty, he⟩, hoe⟩ := hb
        have hty := Ty.beq_eq _ _ hty
        cases hel : tt e with
        | none => rw [hel] at he; cases he
        | some el =>
          rw [hel] at he
          simp only [Bool.and_eq_true, decide_eq_true_eq] at he
          obtain ⟨hsz, hcz⟩ := he
          rcases DataW.trod_slice hu h with ⟨rfl, _⟩ | ⟨a, len, cap, elems, rest, n', hn, rfl, rfl, _, hl, hmx, hlen, hel1, hel2, _⟩
          · exact keep .nilslice (by simp only [VRl]) (by rw [hty]; rfl) (by simp only [Rd, hu]; exact .inl trivial)
          · have hn' : n = n' := by omega
            subst hn'
            have hw0 : ((elems.map (·.1)).length + (rest.map (·.1)).length) * P.bytesOf e ≤ reachBytes := hwt _ (by simp [DataW.weights, hu])
            have hw1 : len * P.bytesOf e ≤ reachBytes := Nat.le_trans (Nat.mul_le_mul_right _ (by simp only [List.length_map]; omega)) hw0
            have hwe : ∀ y ∈ elems ++ rest, ∀ m ∈ DataW.weights P e y.1, m ≤ reachBytes := fun y hy m hm => hwt m (by
              simp only [DataW.weights, hu, List.mem_cons, List.mem_append]
              rcases List.mem_append.1 hy with hy | hy
              · exact .inr (.inl (mem_weightsAll (List.mem_map_of_mem hy) hm))
              · exact .inr (.inr (mem_weightsAll (List.mem_map_of_mem hy) hm)))
            have hall : ∀ k, k < cap → ∃ cs' y, w.cells? 0 (a.add (k * P.cellsOf e)) (P.cellsOf e) = some cs' ∧ DataW.trod enc P w 0 (fun _ => true) true n e cs' = some y ∧ y ∈ elems ++ rest := by
              intro k hk
              have key : ∃ y, (w.cells? 0 (a.add (k * P.cellsOf e)) (P.cellsOf e)).bind (DataW.trod enc P w 0 (fun _ => true) true n e) = some y ∧ y ∈ elems ++ rest := by
                by_cases hkl : k < len
                · exact ⟨elems[k]'(by omega), by rw [hel1 k hkl, List.getElem?_eq_getElem (by omega)], List.mem_append_left _ (List.getElem_mem _)⟩
                · obtain ⟨h1, h2⟩ := hel2 rfl
                  have := h2 (k - len) (by omega)
                  rw [show len + (k - len) = k by omega] at this
                  exact ⟨rest[k - len]'(by omega), by rw [this, List.getElem?_eq_getElem (by omega)], List.mem_append_right _ (List.getElem_mem _)⟩
              obtain ⟨y, hy, hy2⟩ := key
              obtain ⟨cs', h1, h2⟩ := Option.bind_eq_some_iff.1 hy
              exact ⟨cs', y, h1, h2, hy2⟩
            rw [hcz] at hall
            let f : Nat → List Value := fun k => (w.cells? 0 (a.add (k * el.ty.size)) el.ty.size).getD []
            have hf : ∀ k, k < cap → w.cells? 0 (a.add (k * el.ty.size)) el.ty.size = some (f k) ∧ ∃ y, DataW.trod enc P w 0 (fun _ => true) true n e (f k) = some y ∧ y ∈ elems ++ rest := by
              intro k hk
              obtain ⟨cs', y, h1, h2, h3⟩ := hall k hk
              have : f k = cs' := by simp only [f, h1, Option.getD_some]
              rw [this]
              exact ⟨h1, y, h2, h3⟩
            obtain ⟨E1, l1, vs, R1, N1, X1, V1, L1, D1⟩ := Read.list (P := P) (tt := tt) (w := w) (n := n) ((List.range cap).map fun k => (e, f k))
              (fun y hy => by
                obtain ⟨k, hk, rfl⟩ := List.mem_map.1 hy
                obtain ⟨_, z, hz, hz2⟩ := hf k (List.mem_range.1 hk)
                exact read_ok T hok2 n e (f k) z hoe hz (hwe z hz2))
              (fun y hy => by obtain ⟨k, _, rfl⟩ := List.mem_map.1 hy; exact ⟨el, hel⟩) E hp R N
            rw [List.length_map, List.length_range] at L1
            have hcells : ((List.range cap).map fun k => (e, f k)).flatMap (·.2) = (List.range cap).flatMap f := by rw [List.flatMap_map]
            rw [hcells] at V1
            have helem : ∀ j, j < cap → ∃ v, vs[j]? = some v ∧ hasTy v el.ty = true ∧ Rd P tt (hp ++ l1) n e v := by
              intro j hj
              obtain ⟨v, i', hv, hi', ht, _, hr⟩ := D1 j (e, f j) (by simp [hj])
              rw [hel] at hi'
              simp only [Option.some.injEq] at hi'
              subst hi'
              exact ⟨v, hv, ht, hr⟩
            obtain ⟨W1, W2, W3, W4⟩ := mkRow_spec (u := el.ty) (fun v hv => by
              obtain ⟨j, hj⟩ := List.getElem?_of_mem hv
              obtain ⟨v', hv', ht, _⟩ := helem j (by have := (List.getElem?_eq_some_iff.1 hj).1; omega)
              rw [hj] at hv'
              simp only [Option.some.injEq] at hv'
              rw [hv']; exact ht) V1
            rw [L1] at W2
            have hres : ∀ (m : Vab.Mode) (many : Bool) (ty : Ty), RelHeap (E1.pushAt a.block a.off many ty) ((hp ++ l1) ++ [⟨mkRow el.ty vs, 0, m⟩]) w → NoOwn (E1.pushAt a.block a.off many ty) ((hp ++ l1) ++ [⟨mkRow el.ty vs, 0, m⟩]) →
                (∃ c, ty = .arr c el.ty) → (cap ≠ 0 → a.spot = none) →
                ∃ E' l v, RelHeap E' (hp ++ l) w ∧ NoOwn E' (hp ++ l) ∧ Ext E E' ∧ VRl E' v [.slice (some a) len cap] ∧ hasTy v i.ty = true ∧ Rd P tt (hp ++ l) (n + 1) t v := by
              intro m many ty R2 N2 ⟨c', hty'⟩ hsp
              refine ⟨E1.pushAt a.block a.off many ty, l1 ++ [⟨mkRow el.ty vs, 0, m⟩], .slice (hp ++ l1).length 0 [] el.ty 0 len (some cap), by rw [← List.append_assoc]; exact R2, by rw [← List.append_assoc]; exact N2,
                X1.trans (Gh.pushAt_ext ..), ?_, by rw [hty]; rfl, ?_⟩
              · simp only [VRl]
                have hE : (hp ++ l1).length = E1.n := R1.n.symm
                rw [hE]
                refine ⟨a, cap, rfl, by simp [Gh.pushAt], by simp, hl, by simp, by simp, fun _ => ⟨0, c', by simp [Gh.pushAt, hty', Ty.sub], fun hc => ?_, by simp⟩⟩
                have hs := hsp hc
                cases a
                simp only at hs
                simp [Gh.pushAt, hs]
              · unfold Rd
                rw [hu]
                right
                refine ⟨_, el, mkRow el.ty vs, m, len, cap, rfl, hel, ?_, W2, hl, hmx, hw1, fun j hj => ?_⟩
                · rw [← List.append_assoc, List.getElem?_append_right (Nat.le_refl _)]; simp
                · obtain ⟨v, hv, _, hr⟩ := helem j hj
                  exact ⟨v, by rw [W3, hv], by rw [← List.append_assoc]; exact Rd.app _ _ _ _ hr⟩
            by_cases hc0 : cap = 0
            · subst hc0
              have hz : vs = [] := List.eq_nil_of_length_eq_zero L1
              obtain ⟨R2, N2⟩ := rel_push R1 N1 ⟨mkRow el.ty vs, 0, Vab.Mode.open⟩ a.block a.off true (.arr 0 el.ty) rfl (by simp only [if_true]; exact ⟨0, el.ty, rfl, W2⟩) W1 (.inr ⟨rfl, rfl, rfl, by rw [W4, L1]⟩)
              exact hres Vab.Mode.open true _ R2 N2 ⟨0, rfl⟩ (fun h => absurd rfl h)
            · obtain ⟨arr, te, fr, pre, post, g1, g2, g3, g4⟩ := rows_block (w := w) (a := a) (Nat.pos_of_ne_zero hsz) (Nat.pos_of_ne_zero hc0) (fun k hk => (hf k hk).1)
              obtain ⟨R2, N2⟩ := rel_push R1 N1 ⟨mkRow el.ty vs, 0, Vab.Mode.ro⟩ a.block a.off false (.arr cap el.ty) rfl (by simpa using W2) W1 (.inl ⟨rfl, arr, te, fr, pre, post, g1, g3, g4⟩)
              exact hres Vab.Mode.ro false _ R2 N2 ⟨cap, rfl⟩ (fun _ => g2)
      case struct fs =>
        simp only [Bool.and_eq_true, List.all_eq_true] at hb
        obtain ⟨hty, hfs⟩ := hb
        cases hit : i.ty with
        | struct ts =>
          obtain ⟨fs', hu', hsz, _, hfld⟩ := T.struct t i ts hi hit
          rw [hu] at hu'
          simp only [Option.some.injEq, TypeDesc.struct.injEq] at hu'
          subst hu'
          obtain ⟨xs, n', hn, rfl, hlen, hxl, hx⟩ := DataW.trod_struct hu h
          have hn' : n = n' := by omega
          subst hn'
          have hcell := hok.2 t (by simpa using hm)
          rw [hi] at hcell
          simp only [decide_eq_true_eq] at hcell
          rw [hcell, hit] at hlen
          simp only [Ty.size] at hlen
          have hch := chops ts cs hlen
          have hf : ∀ (f : Nat) (y : Field), fs[f]? = some y → ∃ j, tt y.type = some j ∧ ts[f]? = some j.ty ∧ (cs.drop y.offset).take (P.cellsOf y.type) = (cs.drop (Ty.sizes (ts.take f))).take (match ts[f]? with | some t => t.size | none => 0) ∧ Read P tt w n y.type ((cs.drop y.offset).take (P.cellsOf y.type)) := by
            intro f y hy
            obtain ⟨_, ho, j, hj, htf, _⟩ := hfld f y hy
            have hmem : y ∈ fs.toList := List.mem_of_getElem? (by simpa using hy)
            have h3 := hfs y hmem
            rw [hj] at h3
            simp only [decide_eq_true_eq] at h3
            refine ⟨j, hj, htf, ?_, ?_⟩
            · rw [ho, h3.2, htf]
            · have hlt : f < fs.size := (Array.getElem?_eq_some_iff.1 hy).1
              have h4 := hx f y hy
              rw [List.getElem?_eq_getElem (by omega)] at h4
              refine read_ok T hok2 n y.type _ _ h3.1 h4 (fun m hm => hwt m ?_)
              simp only [DataW.weights, hu]
              exact mem_weightsEach (i := f) (by simp [hy]) (by rw [List.getElem?_map, List.getElem?_eq_getElem (by omega)]; rfl) hm
          obtain ⟨E1, l1, vs, R1, N1, X1, V1, L1, D1⟩ := Read.list (P := P) (tt := tt) (w := w) (n := n) (fs.toList.map fun y => (y.type, (cs.drop y.offset).take (P.cellsOf y.type)))
            (fun z hz => by
              obtain ⟨y, hy, rfl⟩ := List.mem_map.1 hz
              obtain ⟨f, hfy⟩ := List.getElem?_of_mem hy
              obtain ⟨j, _, _, _, hr⟩ := hf f y (by simpa using hfy)
              exact hr)
            (fun z hz => by
              obtain ⟨y, hy, rfl⟩ := List.mem_map.1 hz
              obtain ⟨f, hfy⟩ := List.getElem?_of_mem hy
              obtain ⟨j, hj, _⟩ := hf f y (by simpa using hfy)
              exact ⟨j, hj⟩) E hp R N
          rw [List.length_map] at L1
          have L1 : vs.length = fs.size := by rw [L1]; simp
          have hcat : (fs.toList.map fun y => (y.type, (cs.drop y.offset).take (P.cellsOf y.type))).flatMap (·.2) = cs := by
            rw [List.flatMap_map]
            rw [flatMap_of_get (n := ts.length) (f := fun f => (cs.drop (Ty.sizes (ts.take f))).take (match ts[f]? with | some t => t.size | none => 0)) (by simpa using hsz) (fun f y hy => ?_)]
            · exact hch
            · obtain ⟨j, _, _, he, _⟩ := hf f y (by simpa using hy)
              exact he
          rw [hcat] at V1
          have hD : ∀ (f : Nat) (y : Field), fs[f]? = some y → ∃ v, ∃ j : TI, vs[f]? = some v ∧ ts[f]? = some j.ty ∧ hasTy v j.ty = true ∧ Rd P tt (hp ++ l1) n y.type v := by
            intro f y hy
            obtain ⟨v, j', hv, hj', ht, _, hr⟩ := D1 f (y.type, (cs.drop y.offset).take (P.cellsOf y.type)) (by rw [List.getElem?_map, Array.getElem?_toList, hy]; rfl)
            obtain ⟨j, hj, htf, _⟩ := hf f y hy
            rw [hj] at hj'
            simp only [Option.some.injEq] at hj'
            subst hj'
            exact ⟨v, j, hv, htf, ht, hr⟩
          refine ⟨E1, l1, .node vs, R1, N1, X1, by simpa only [VRl] using V1, ?_, ?_⟩
          · simp only [hasTy]
            refine hasTys_of (by omega) (fun f v t' hv ht' => ?_)
            have hlt : f < fs.size := by have := (List.getElem?_eq_some_iff.1 hv).1; omega
            obtain ⟨v', j, hv', htf, ht, _⟩ := hD f fs[f] (Array.getElem?_eq_getElem hlt)
            rw [hv] at hv'; rw [ht'] at htf
            simp only [Option.some.injEq] at hv' htf
            rw [hv', htf]; exact ht
          · unfold Rd
            rw [hu]
            exact ⟨vs, rfl, fun f y hy => by obtain ⟨v, j, hv, _, _, hr⟩ := hD f y hy; exact ⟨v, hv, hr⟩⟩
        | int k => rw [hit] at hty; cases hty
        | cell => rw [hit] at hty; cases hty
        | arr a b => rw [hit] at hty; cases hty
      case array m e =>
        simp only [Bool.and_eq_true] at hb
        obtain ⟨⟨hty, hoe⟩, hce⟩ := hb
        cases hit : i.ty with
        | arr m' u =>
          obtain ⟨e', el, hu', hel, hjt⟩ := T.arr t i m' u hi hit
          rw [hu] at hu'
          simp only [Option.some.injEq, TypeDesc.array.injEq] at hu'
          obtain ⟨rfl, rfl⟩ := hu'
          rw [hel] at hce
          simp only [decide_eq_true_eq] at hce
          obtain ⟨xs, n', hn, rfl, hlen, hxl, hx⟩ := DataW.trod_array hu h
          have hn' : n = n' := by omega
          subst hn'
          have hcell := hok.2 t (by simpa using hm)
          rw [hi] at hcell
          simp only [decide_eq_true_eq] at hcell
          rw [hcell, hit] at hlen
          simp only [Ty.size] at hlen
          rw [← hjt] at hlen
          have hch := chop el.ty.size m cs hlen
          rw [hce] at hx
          obtain ⟨E1, l1, vs, R1, N1, X1, V1, L1, D1⟩ := Read.list (P := P) (tt := tt) (w := w) (n := n) ((List.range m).map fun k => (e, (cs.drop (k * el.ty.size)).take el.ty.size))
            (fun y hy => by
              obtain ⟨k, hk, rfl⟩ := List.mem_map.1 hy
              have hk := List.mem_range.1 hk
              have h4 := hx k hk
              rw [List.getElem?_eq_getElem (by omega)] at h4
              refine read_ok T hok2 n e _ _ hoe h4 (fun m hm => hwt m ?_)
              simp only [DataW.weights, hu]
              exact mem_weightsAll (List.mem_map_of_mem (List.getElem_mem _)) hm)
            (fun y hy => by obtain ⟨k, _, rfl⟩ := List.mem_map.1 hy; exact ⟨el, hel⟩) E hp R N
          rw [List.length_map, List.length_range] at L1
          rw [List.flatMap_map, hch] at V1
          have helem : ∀ j, j < m → ∃ v, vs[j]? = some v ∧ hasTy v el.ty = true ∧ Rd P tt (hp ++ l1) n e v := by
            intro j hj
            obtain ⟨v, i', hv, hi', ht, _, hr⟩ := D1 j (e, (cs.drop (j * el.ty.size)).take el.ty.size) (by simp [hj])
            rw [hel] at hi'
            simp only [Option.some.injEq] at hi'
            subst hi'
            exact ⟨v, hv, ht, hr⟩
          obtain ⟨W1, W2, W3, W4⟩ := mkRow_spec (u := el.ty) (fun v hv => by
            obtain ⟨j, hj⟩ := List.getElem?_of_mem hv
            obtain ⟨v', hv', ht, _⟩ := helem j (by have := (List.getElem?_eq_some_iff.1 hj).1; omega)
            rw [hj] at hv'
            simp only [Option.some.injEq] at hv'
            rw [hv']; exact ht) V1
          rw [L1] at W2
          refine ⟨E1, l1, mkRow el.ty vs, R1, N1, X1, W1, by rw [← hjt]; exact W2, ?_⟩
          unfold Rd
          rw [hu]
          intro j hj
          obtain ⟨v, hv, _, hr⟩ := helem j hj
          exact ⟨v, by rw [W3, hv], hr⟩
        | int k => rw [hit] at hty; cases hty
        | cell => rw [hit] at hty; cases hty
        | struct b => rw [hit] at hty; cases hty


open Go.RowKit Go.WideShapes Go.ChangeShapes
/-- All arguments avs abstract values. -/
theorem read_args (T : TTok P tt) (hok : plainB P tt ok = true) {W : World} {base : Nat} : ∀ (ts : List TypeId) (vs : List Value) (ds : List (DataW H)) (ps : List MemPlace), (∀ t ∈ ts, ok.contains t = true) → (∀ t ∈ ts, ∃ i, tt t = some i) →
    DataW.TrodAll enc P W 0 (fun _ => true) true ts vs ds ps → (∀ m ∈ DataW.weightsEach P ts ds, m ≤ reachBytes) → (∀ (j : Nat) t v, ts[j]? = some t → vs[j]? = some v → Value.okWide P W .any base t v) →
    ∀ E h, RelHeap E h W → NoOwn E h → ∃ E' l avs, RelHeap E' (h ++ l) W ∧ NoOwn E' (h ++ l) ∧ Ext E E' ∧ VRc E' avs vs ∧ avs.length = ts.length ∧ ∀ (j : Nat) t a, ts[j]? = some t → avs[j]? = some a → ∃ n i, tt t = some i ∧ hasTy a i.ty = true ∧ Rd P tt (h ++ l) n t a
  | [], [], [], ps, _, _, _, _, _, E, h, R, N => ⟨E, [], [], by simpa using R, by simpa using N, Ext.refl E, by simp [VRc], rfl, fun j t a hj => by simp at hj⟩
  | t :: ts, v :: vs, d :: ds, ps, ho, hi, hr, hwt, hv, E, h, R, N => by
    obtain ⟨p, q, ⟨n, h1⟩, h2, _⟩ := hr
    obtain ⟨i, hti⟩ := hi t (List.mem_cons_self ..)
    obtain ⟨E1, l1, a, R1, N1, X1, V1, T1, D1⟩ := read_ok T hok n t _ _ (ho t (List.mem_cons_self ..)) h1 (fun m hm => hwt m (by simp only [DataW.weightsEach]; exact List.mem_append_left _ hm)) E h R N i hti
    obtain ⟨E2, l2, avs, R2, N2, X2, V2, L2, D2⟩ := read_args T hok ts vs ds q (fun y hy => ho y (List.mem_cons_of_mem _ hy)) (fun y hy => hi y (List.mem_cons_of_mem _ hy)) h2 (fun m hm => hwt m (by simp only [DataW.weightsEach]; exact List.mem_append_right _ hm)) (fun j t v hj hjv => hv (j + 1) t v (by simpa using hj) (by simpa using hjv)) E1 (h ++ l1) R1 N1
    have hval := value_of_cells T hti (hv 0 t v rfl rfl)
    refine ⟨E2, l1 ++ l2, a :: avs, by rw [← List.append_assoc]; exact R2, by rw [← List.append_assoc]; exact N2, X1.trans X2, ?_, by simp [L2], fun j u b hj hb => ?_⟩
    · simp only [VRc]
      refine ⟨v, vs, rfl, ?_, V2⟩
      rw [hval]
      exact VRel.mono X2 _ _ (VRel.of_cells T1 V1)
    · rw [← List.append_assoc]
      cases j with
      | zero =>
        simp at hj hb; subst hj; subst hb
        exact ⟨n, i, hti, T1, Rd.app l2 _ _ _ D1⟩
      | succ j => exact D2 j u b (by simpa using hj) (by simpa using hb)
  | [], _ :: _, _, _, _, _, hr, _, _, _, _, _, _ => by simp [DataW.TrodAll] at hr
  | [], [], _ :: _, _, _, _, hr, _, _, _, _, _, _ => by simp [DataW.TrodAll] at hr
  | _ :: _, [], _, _, _, _, hr, _, _, _, _, _, _ => by simp [DataW.TrodAll] at hr
  | _ :: _, _ :: _, [], _, _, _, hr, _, _, _, _, _, _ => by simp [DataW.TrodAll] at hr


end

theorem SpecQ.calls {P : Program} {f : Nat} {fn : Func} {args : List AV} {h : Heap} {K : AV × Heap → Prop} (hs : SpecQ P f args h K) (hf : P.funcs[f]? = some fn) (hb : fn.body.isSome = true) (hn : (fn.name == "runtime.NumGoroutine") = false) :
    ∀ (E : Gh) (w : World) (xs : List Value), RelHeap E h w → VRc E args xs → Calls P f xs.toArray w fun e w' => ∃ r E' x, K r ∧ e = .returned x ∧ VRel E' r.1 x ∧ Moves E h w E' r.2 w' := by
  intro E w xs R V
  rcases hs E w xs R V with ⟨_, h2⟩ | ⟨x, w', r, E', h1, _⟩
  · exact h2
  · obtain ⟨c, hc⟩ := Option.isSome_iff_exists.1 hb
    have h3 : fn.name ≠ "runtime.NumGoroutine" := by simpa using hn
    simp [callFunc, hf, h3, hc] at h1

/-- What a law is handed, avs it was read. -/
def Handed (P : Program) (tt : Nat → Option TI) (h : Heap) (ts : List TypeId) (avs : List AV) : Prop :=
  avs.length = ts.length ∧ ∀ (j : Nat) t a, ts[j]? = some t → avs[j]? = some a → ∃ n i, tt t = some i ∧ hasTy a i.ty = true ∧ Rd P tt h n t a

theorem law_lifted_sized {C : Checked} {tt : Nat → Option TI} {ok : List TypeId} {os : Os} {f : FuncId} {fn : Func} {s : ChangeSpec} {b : Nat} {H : Type} {enc : TypeId × Value → H} (T : TTok C.prog tt) (hok : plainB C.prog tt ok = true)
    (own : ownKnob C.prog.godebug = none) (hl : laidOutB C.prog = true) (started : os.Started) (noInit : C.prog.inits.idxOf? f = none) (hfn : C.prog.funcs[f]? = some fn) (hvars : s.vars = [])
    (hread : (fn.params.toList.all fun t => C.prog.readableRec t && decide (t < C.prog.types.size) && ok.contains t && (tt t).isSome) = true) (hres : fn.resultTypes = #[b]) (hbool : C.prog.underlying b = some .bool)
    (hs : ∀ ds : List (DataW H), ds.length = fn.params.size → s.fn H ds = { results := [.lit (.bool true)], args := ds })
    (witness : ∃ (w : World) (tape : Tape) (i : Input), w.os = os ∧ (w.forCall tape i).Shaped C.prog ∧ i.vars = [] ∧ Input.okWide C.prog (w.forCall tape i) .any w.heap.size f i ∧
      s.pre6 enc C.prog fn [] false (w.forCall tape i).memory i.args ∧ ({ modest := false } : Assume).holds C.prog (lone (Frame.enter C.prog f i.args .normal) [] (w.forCall tape i)))
    (hbody : fn.body.isSome = true) (hname : (fn.name == "runtime.NumGoroutine") = false)
    (spec : ∀ avs h, Handed C.prog tt h fn.params.toList avs → SpecQ C.prog f avs h fun r => r.1 = .bool true) :
    ReturnsInHanded {} C os f .any (s.pre6 enc C.prog fn [] false) (s.post enc C.prog fn false true false false) := by
  refine returnsInHanded_of_change_sized own started noInit hfn witness ?_
  intro W base args ds gs before hval hW _ hwt _
  simp only [List.all_eq_true, Bool.and_eq_true, decide_eq_true_eq] at hread
  have hW0 := hW
  obtain ⟨p, q, h1, h2, he, hz, hn⟩ := hW
  have hgs : gs = [] := by
    rw [hvars] at h2
    cases gs with
    | nil => rfl
    | cons _ _ => simp [DataW.TrodVars] at h2
  subst hgs
  have hwt' : ∀ m ∈ DataW.weightsEach C.prog fn.params.toList ds, m ≤ reachBytes := by
    have ev : s.plain.varTypes C.prog = [] := by
      unfold DataSpec.varTypes
      simp [ChangeSpec.plain, hvars]
    rw [ev, List.append_nil, List.append_nil] at hwt
    simpa using hwt
  obtain ⟨E, l, avs, R, N, X, V, L, D⟩ := read_args T hok fn.params.toList args.toList ds p (fun t ht => (hread t ht).1.2) (fun t ht => Option.isSome_iff_exists.1 (hread t ht).2) h1 hwt' (fun j t v hj hv => hval j t v (by simpa using hj) (by simpa using hv)) E00 [] (rel00 W) (fun i b hb => by simp at hb)
  simp only [List.nil_append] at R N D
  have hsp := SpecQ.calls (spec avs l ⟨L, D⟩) hfn hbody hname
  have hlen : ds.length = fn.params.size := by
    have : ∀ (ts : List TypeId) (vs : List Value) (ds : List (DataW H)) (ps : List MemPlace), DataW.TrodAll enc C.prog W 0 (fun _ => true) true ts vs ds ps → ds.length = ts.length := by
      intro ts
      induction ts with
      | nil =>
        intro vs ds ps h
        cases vs <;> cases ds <;> simp [DataW.TrodAll] at h ⊢
      | cons t ts ih =>
        intro vs ds ps h
        cases vs <;> cases ds <;> simp only [DataW.TrodAll] at h
        obtain ⟨_, _, _, h, _⟩ := h
        simp [ih _ _ _ h]
    rw [this _ _ _ _ h1]; simp
  have hc := hsp E W args.toList R V
  simp only [Array.toArray_toList] at hc
  refine hc.mono fun e W' hp => ?_
  obtain ⟨⟨rv, h'⟩, E', x, hrv, rfl, hx, m⟩ := hp
  dsimp only at hrv hx m
  subst hrv
  simp only [VRel] at hx
  subst hx
  exact ⟨_, rfl, post_true hl hvars (fun t ht => (hread t ht).1.1) hres hbool (hs ds hlen) hW0 (below_of_moves N m)⟩


end Go.Vas

/- The struct types of the seats. Printed by wip/tools/gen2.py (own work). -/
namespace Go.Vab
open Go
def tPublic : Ty := (.struct [(.arr 32 (.int .u8)), (.arr 32 (.int .u8))])
theorem tPublic_x : tPublic = (.struct [(.arr 32 (.int .u8)), (.arr 32 (.int .u8))]) := rfl
@[simp] theorem hasTy_tPublic (vs : List AV) : hasTy (.node vs) tPublic = hasTys vs [(.arr 32 (.int .u8)), (.arr 32 (.int .u8))] := rfl
@[simp] theorem size_tPublic : Ty.size tPublic = 64 := by rfl
@[simp] theorem mEq_tPublic (op : BinOp) (x y : AV) : mEq tPublic op x y = if hasTy x tPublic && hasTy y tPublic then (match op with | .eql => bnd (eqv x y) fun b => some (.bool b) | .neq => bnd (eqv x y) fun b => some (.bool !b) | _ => none) else none := rfl
@[simp] theorem hasTy_row_tPublic (vs : List AV) (n : Nat) : hasTy (.node vs) (.arr n tPublic) = (decide (vs.length = n) && hasTyAll vs tPublic) := rfl
@[simp] theorem mFieldAddr_tPublic_0 (b ver : Nat) (path : List Nat) : mFieldAddr tPublic (.ptr b ver path tPublic) 0 = some (.ptr b ver (path ++ [0]) (.arr 32 (.int .u8))) := by simp [mFieldAddr, tPublic]
@[simp] theorem mField_tPublic_0 (vs : List AV) : mField tPublic (.node vs) 0 = if hasTys vs [(.arr 32 (.int .u8)), (.arr 32 (.int .u8))] then vs[0]? else none := rfl
@[simp] theorem mFieldAddr_tPublic_1 (b ver : Nat) (path : List Nat) : mFieldAddr tPublic (.ptr b ver path tPublic) 1 = some (.ptr b ver (path ++ [1]) (.arr 32 (.int .u8))) := by simp [mFieldAddr, tPublic]
@[simp] theorem mField_tPublic_1 (vs : List AV) : mField tPublic (.node vs) 1 = if hasTys vs [(.arr 32 (.int .u8)), (.arr 32 (.int .u8))] then vs[1]? else none := rfl
def tAccess : Ty := (.struct [(.int .u8), (.int .u8), (.int .u8)])
theorem tAccess_x : tAccess = (.struct [(.int .u8), (.int .u8), (.int .u8)]) := rfl
@[simp] theorem hasTy_tAccess (vs : List AV) : hasTy (.node vs) tAccess = hasTys vs [(.int .u8), (.int .u8), (.int .u8)] := rfl
@[simp] theorem size_tAccess : Ty.size tAccess = 3 := by rfl
@[simp] theorem mEq_tAccess (op : BinOp) (x y : AV) : mEq tAccess op x y = if hasTy x tAccess && hasTy y tAccess then (match op with | .eql => bnd (eqv x y) fun b => some (.bool b) | .neq => bnd (eqv x y) fun b => some (.bool !b) | _ => none) else none := rfl
@[simp] theorem hasTy_row_tAccess (vs : List AV) (n : Nat) : hasTy (.node vs) (.arr n tAccess) = (decide (vs.length = n) && hasTyAll vs tAccess) := rfl
@[simp] theorem mFieldAddr_tAccess_0 (b ver : Nat) (path : List Nat) : mFieldAddr tAccess (.ptr b ver path tAccess) 0 = some (.ptr b ver (path ++ [0]) (.int .u8)) := by simp [mFieldAddr, tAccess]
@[simp] theorem mField_tAccess_0 (vs : List AV) : mField tAccess (.node vs) 0 = if hasTys vs [(.int .u8), (.int .u8), (.int .u8)] then vs[0]? else none := rfl
@[simp] theorem mFieldAddr_tAccess_1 (b ver : Nat) (path : List Nat) : mFieldAddr tAccess (.ptr b ver path tAccess) 1 = some (.ptr b ver (path ++ [1]) (.int .u8)) := by simp [mFieldAddr, tAccess]
@[simp] theorem mField_tAccess_1 (vs : List AV) : mField tAccess (.node vs) 1 = if hasTys vs [(.int .u8), (.int .u8), (.int .u8)] then vs[1]? else none := rfl
@[simp] theorem mFieldAddr_tAccess_2 (b ver : Nat) (path : List Nat) : mFieldAddr tAccess (.ptr b ver path tAccess) 2 = some (.ptr b ver (path ++ [2]) (.int .u8)) := by simp [mFieldAddr, tAccess]
@[simp] theorem mField_tAccess_2 (vs : List AV) : mField tAccess (.node vs) 2 = if hasTys vs [(.int .u8), (.int .u8), (.int .u8)] then vs[2]? else none := rfl
def tState : Ty := (.struct [(.int .u32), tPublic, .cell, tAccess, .cell, .cell, .cell, .cell, .cell])
theorem tState_x : tState = (.struct [(.int .u32), tPublic, .cell, tAccess, .cell, .cell, .cell, .cell, .cell]) := rfl
@[simp] theorem hasTy_tState (vs : List AV) : hasTy (.node vs) tState = hasTys vs [(.int .u32), tPublic, .cell, tAccess, .cell, .cell, .cell, .cell, .cell] := rfl
@[simp] theorem size_tState : Ty.size tState = 74 := by rfl
@[simp] theorem mEq_tState (op : BinOp) (x y : AV) : mEq tState op x y = if hasTy x tState && hasTy y tState then (match op with | .eql => bnd (eqv x y) fun b => some (.bool b) | .neq => bnd (eqv x y) fun b => some (.bool !b) | _ => none) else none := rfl
@[simp] theorem hasTy_row_tState (vs : List AV) (n : Nat) : hasTy (.node vs) (.arr n tState) = (decide (vs.length = n) && hasTyAll vs tState) := rfl
@[simp] theorem mFieldAddr_tState_0 (b ver : Nat) (path : List Nat) : mFieldAddr tState (.ptr b ver path tState) 0 = some (.ptr b ver (path ++ [0]) (.int .u32)) := by simp [mFieldAddr, tState]
@[simp] theorem mField_tState_0 (vs : List AV) : mField tState (.node vs) 0 = if hasTys vs [(.int .u32), tPublic, .cell, tAccess, .cell, .cell, .cell, .cell, .cell] then vs[0]? else none := rfl
@[simp] theorem mFieldAddr_tState_1 (b ver : Nat) (path : List Nat) : mFieldAddr tState (.ptr b ver path tState) 1 = some (.ptr b ver (path ++ [1]) tPublic) := by simp [mFieldAddr, tState]
@[simp] theorem mField_tState_1 (vs : List AV) : mField tState (.node vs) 1 = if hasTys vs [(.int .u32), tPublic, .cell, tAccess, .cell, .cell, .cell, .cell, .cell] then vs[1]? else none := rfl
@[simp] theorem mFieldAddr_tState_2 (b ver : Nat) (path : List Nat) : mFieldAddr tState (.ptr b ver path tState) 2 = some (.ptr b ver (path ++ [2]) .cell) := by simp [mFieldAddr, tState]
@[simp] theorem mField_tState_2 (vs : List AV) : mField tState (.node vs) 2 = if hasTys vs [(.int .u32), tPublic, .cell, tAccess, .cell, .cell, .cell, .cell, .cell] then vs[2]? else none := rfl
@[simp] theorem mFieldAddr_tState_3 (b ver : Nat) (path : List Nat) : mFieldAddr tState (.ptr b ver path tState) 3 = some (.ptr b ver (path ++ [3]) tAccess) := by simp [mFieldAddr, tState]
@[simp] theorem mField_tState_3 (vs : List AV) : mField tState (.node vs) 3 = if hasTys vs [(.int .u32), tPublic, .cell, tAccess, .cell, .cell, .cell, .cell, .cell] then vs[3]? else none := rfl
@[simp] theorem mFieldAddr_tState_4 (b ver : Nat) (path : List Nat) : mFieldAddr tState (.ptr b ver path tState) 4 = some (.ptr b ver (path ++ [4]) .cell) := by simp [mFieldAddr, tState]
@[simp] theorem mField_tState_4 (vs : List AV) : mField tState (.node vs) 4 = if hasTys vs [(.int .u32), tPublic, .cell, tAccess, .cell, .cell, .cell, .cell, .cell] then vs[4]? else none := rfl
@[simp] theorem mFieldAddr_tState_5 (b ver : Nat) (path : List Nat) : mFieldAddr tState (.ptr b ver path tState) 5 = some (.ptr b ver (path ++ [5]) .cell) := by simp [mFieldAddr, tState]
@[simp] theorem mField_tState_5 (vs : List AV) : mField tState (.node vs) 5 = if hasTys vs [(.int .u32), tPublic, .cell, tAccess, .cell, .cell, .cell, .cell, .cell] then vs[5]? else none := rfl
@[simp] theorem mFieldAddr_tState_6 (b ver : Nat) (path : List Nat) : mFieldAddr tState (.ptr b ver path tState) 6 = some (.ptr b ver (path ++ [6]) .cell) := by simp [mFieldAddr, tState]
@[simp] theorem mField_tState_6 (vs : List AV) : mField tState (.node vs) 6 = if hasTys vs [(.int .u32), tPublic, .cell, tAccess, .cell, .cell, .cell, .cell, .cell] then vs[6]? else none := rfl
@[simp] theorem mFieldAddr_tState_7 (b ver : Nat) (path : List Nat) : mFieldAddr tState (.ptr b ver path tState) 7 = some (.ptr b ver (path ++ [7]) .cell) := by simp [mFieldAddr, tState]
@[simp] theorem mField_tState_7 (vs : List AV) : mField tState (.node vs) 7 = if hasTys vs [(.int .u32), tPublic, .cell, tAccess, .cell, .cell, .cell, .cell, .cell] then vs[7]? else none := rfl
@[simp] theorem mFieldAddr_tState_8 (b ver : Nat) (path : List Nat) : mFieldAddr tState (.ptr b ver path tState) 8 = some (.ptr b ver (path ++ [8]) .cell) := by simp [mFieldAddr, tState]
@[simp] theorem mField_tState_8 (vs : List AV) : mField tState (.node vs) 8 = if hasTys vs [(.int .u32), tPublic, .cell, tAccess, .cell, .cell, .cell, .cell, .cell] then vs[8]? else none := rfl
def tCipher : Ty := (.struct [(.arr 32 (.int .u8)), (.arr 32 (.int .u8))])
theorem tCipher_x : tCipher = (.struct [(.arr 32 (.int .u8)), (.arr 32 (.int .u8))]) := rfl
@[simp] theorem hasTy_tCipher (vs : List AV) : hasTy (.node vs) tCipher = hasTys vs [(.arr 32 (.int .u8)), (.arr 32 (.int .u8))] := rfl
@[simp] theorem size_tCipher : Ty.size tCipher = 64 := by rfl
@[simp] theorem mEq_tCipher (op : BinOp) (x y : AV) : mEq tCipher op x y = if hasTy x tCipher && hasTy y tCipher then (match op with | .eql => bnd (eqv x y) fun b => some (.bool b) | .neq => bnd (eqv x y) fun b => some (.bool !b) | _ => none) else none := rfl
@[simp] theorem hasTy_row_tCipher (vs : List AV) (n : Nat) : hasTy (.node vs) (.arr n tCipher) = (decide (vs.length = n) && hasTyAll vs tCipher) := rfl
@[simp] theorem mFieldAddr_tCipher_0 (b ver : Nat) (path : List Nat) : mFieldAddr tCipher (.ptr b ver path tCipher) 0 = some (.ptr b ver (path ++ [0]) (.arr 32 (.int .u8))) := by simp [mFieldAddr, tCipher]
@[simp] theorem mField_tCipher_0 (vs : List AV) : mField tCipher (.node vs) 0 = if hasTys vs [(.arr 32 (.int .u8)), (.arr 32 (.int .u8))] then vs[0]? else none := rfl
@[simp] theorem mFieldAddr_tCipher_1 (b ver : Nat) (path : List Nat) : mFieldAddr tCipher (.ptr b ver path tCipher) 1 = some (.ptr b ver (path ++ [1]) (.arr 32 (.int .u8))) := by simp [mFieldAddr, tCipher]
@[simp] theorem mField_tCipher_1 (vs : List AV) : mField tCipher (.node vs) 1 = if hasTys vs [(.arr 32 (.int .u8)), (.arr 32 (.int .u8))] then vs[1]? else none := rfl
def tAction : Ty := (.struct [(.int .u32), (.int .u8), tCipher, (.arr 32 (.int .u8)), (.int .u8), .cell, tAccess, .cell])
theorem tAction_x : tAction = (.struct [(.int .u32), (.int .u8), tCipher, (.arr 32 (.int .u8)), (.int .u8), .cell, tAccess, .cell]) := rfl
@[simp] theorem hasTy_tAction (vs : List AV) : hasTy (.node vs) tAction = hasTys vs [(.int .u32), (.int .u8), tCipher, (.arr 32 (.int .u8)), (.int .u8), .cell, tAccess, .cell] := rfl
@[simp] theorem size_tAction : Ty.size tAction = 104 := by rfl
@[simp] theorem mEq_tAction (op : BinOp) (x y : AV) : mEq tAction op x y = if hasTy x tAction && hasTy y tAction then (match op with | .eql => bnd (eqv x y) fun b => some (.bool b) | .neq => bnd (eqv x y) fun b => some (.bool !b) | _ => none) else none := rfl
@[simp] theorem hasTy_row_tAction (vs : List AV) (n : Nat) : hasTy (.node vs) (.arr n tAction) = (decide (vs.length = n) && hasTyAll vs tAction) := rfl
@[simp] theorem mFieldAddr_tAction_0 (b ver : Nat) (path : List Nat) : mFieldAddr tAction (.ptr b ver path tAction) 0 = some (.ptr b ver (path ++ [0]) (.int .u32)) := by simp [mFieldAddr, tAction]
@[simp] theorem mField_tAction_0 (vs : List AV) : mField tAction (.node vs) 0 = if hasTys vs [(.int .u32), (.int .u8), tCipher, (.arr 32 (.int .u8)), (.int .u8), .cell, tAccess, .cell] then vs[0]? else none := rfl
@[simp] theorem mFieldAddr_tAction_1 (b ver : Nat) (path : List Nat) : mFieldAddr tAction (.ptr b ver path tAction) 1 = some (.ptr b ver (path ++ [1]) (.int .u8)) := by simp [mFieldAddr, tAction]
@[simp] theorem mField_tAction_1 (vs : List AV) : mField tAction (.node vs) 1 = if hasTys vs [(.int .u32), (.int .u8), tCipher, (.arr 32 (.int .u8)), (.int .u8), .cell, tAccess, .cell] then vs[1]? else none := rfl
@[simp] theorem mFieldAddr_tAction_2 (b ver : Nat) (path : List Nat) : mFieldAddr tAction (.ptr b ver path tAction) 2 = some (.ptr b ver (path ++ [2]) tCipher) := by simp [mFieldAddr, tAction]
@[simp] theorem mField_tAction_2 (vs : List AV) : mField tAction (.node vs) 2 = if hasTys vs [(.int .u32), (.int .u8), tCipher, (.arr 32 (.int .u8)), (.int .u8), .cell, tAccess, .cell] then vs[2]? else none := rfl
@[simp] theorem mFieldAddr_tAction_3 (b ver : Nat) (path : List Nat) : mFieldAddr tAction (.ptr b ver path tAction) 3 = some (.ptr b ver (path ++ [3]) (.arr 32 (.int .u8))) := by simp [mFieldAddr, tAction]
@[simp] theorem mField_tAction_3 (vs : List AV) : mField tAction (.node vs) 3 = if hasTys vs [(.int .u32), (.int .u8), tCipher, (.arr 32 (.int .u8)), (.int .u8), .cell, tAccess, .cell] then vs[3]? else none := rfl
@[simp] theorem mFieldAddr_tAction_4 (b ver : Nat) (path : List Nat) : mFieldAddr tAction (.ptr b ver path tAction) 4 = some (.ptr b ver (path ++ [4]) (.int .u8)) := by simp [mFieldAddr, tAction]
@[simp] theorem mField_tAction_4 (vs : List AV) : mField tAction (.node vs) 4 = if hasTys vs [(.int .u32), (.int .u8), tCipher, (.arr 32 (.int .u8)), (.int .u8), .cell, tAccess, .cell] then vs[4]? else none := rfl
@[simp] theorem mFieldAddr_tAction_5 (b ver : Nat) (path : List Nat) : mFieldAddr tAction (.ptr b ver path tAction) 5 = some (.ptr b ver (path ++ [5]) .cell) := by simp [mFieldAddr, tAction]
@[simp] theorem mField_tAction_5 (vs : List AV) : mField tAction (.node vs) 5 = if hasTys vs [(.int .u32), (.int .u8), tCipher, (.arr 32 (.int .u8)), (.int .u8), .cell, tAccess, .cell] then vs[5]? else none := rfl
@[simp] theorem mFieldAddr_tAction_6 (b ver : Nat) (path : List Nat) : mFieldAddr tAction (.ptr b ver path tAction) 6 = some (.ptr b ver (path ++ [6]) tAccess) := by simp [mFieldAddr, tAction]
@[simp] theorem mField_tAction_6 (vs : List AV) : mField tAction (.node vs) 6 = if hasTys vs [(.int .u32), (.int .u8), tCipher, (.arr 32 (.int .u8)), (.int .u8), .cell, tAccess, .cell] then vs[6]? else none := rfl
@[simp] theorem mFieldAddr_tAction_7 (b ver : Nat) (path : List Nat) : mFieldAddr tAction (.ptr b ver path tAction) 7 = some (.ptr b ver (path ++ [7]) .cell) := by simp [mFieldAddr, tAction]
@[simp] theorem mField_tAction_7 (vs : List AV) : mField tAction (.node vs) 7 = if hasTys vs [(.int .u32), (.int .u8), tCipher, (.arr 32 (.int .u8)), (.int .u8), .cell, tAccess, .cell] then vs[7]? else none := rfl
def tProof : Ty := (.struct [(.arr 32 (.int .u8)), .cell])
theorem tProof_x : tProof = (.struct [(.arr 32 (.int .u8)), .cell]) := rfl
@[simp] theorem hasTy_tProof (vs : List AV) : hasTy (.node vs) tProof = hasTys vs [(.arr 32 (.int .u8)), .cell] := rfl
@[simp] theorem size_tProof : Ty.size tProof = 33 := by rfl
@[simp] theorem mEq_tProof (op : BinOp) (x y : AV) : mEq tProof op x y = if hasTy x tProof && hasTy y tProof then (match op with | .eql => bnd (eqv x y) fun b => some (.bool b) | .neq => bnd (eqv x y) fun b => some (.bool !b) | _ => none) else none := rfl
@[simp] theorem hasTy_row_tProof (vs : List AV) (n : Nat) : hasTy (.node vs) (.arr n tProof) = (decide (vs.length = n) && hasTyAll vs tProof) := rfl
@[simp] theorem mFieldAddr_tProof_0 (b ver : Nat) (path : List Nat) : mFieldAddr tProof (.ptr b ver path tProof) 0 = some (.ptr b ver (path ++ [0]) (.arr 32 (.int .u8))) := by simp [mFieldAddr, tProof]
@[simp] theorem mField_tProof_0 (vs : List AV) : mField tProof (.node vs) 0 = if hasTys vs [(.arr 32 (.int .u8)), .cell] then vs[0]? else none := rfl
@[simp] theorem mFieldAddr_tProof_1 (b ver : Nat) (path : List Nat) : mFieldAddr tProof (.ptr b ver path tProof) 1 = some (.ptr b ver (path ++ [1]) .cell) := by simp [mFieldAddr, tProof]
@[simp] theorem mField_tProof_1 (vs : List AV) : mField tProof (.node vs) 1 = if hasTys vs [(.arr 32 (.int .u8)), .cell] then vs[1]? else none := rfl
def tPass : Ty := (.struct [(.arr 32 (.int .u8)), (.arr 32 (.int .u8)), (.arr 32 (.int .u8)), tProof])
theorem tPass_x : tPass = (.struct [(.arr 32 (.int .u8)), (.arr 32 (.int .u8)), (.arr 32 (.int .u8)), tProof]) := rfl
@[simp] theorem hasTy_tPass (vs : List AV) : hasTy (.node vs) tPass = hasTys vs [(.arr 32 (.int .u8)), (.arr 32 (.int .u8)), (.arr 32 (.int .u8)), tProof] := rfl
@[simp] theorem size_tPass : Ty.size tPass = 129 := by rfl
@[simp] theorem mEq_tPass (op : BinOp) (x y : AV) : mEq tPass op x y = if hasTy x tPass && hasTy y tPass then (match op with | .eql => bnd (eqv x y) fun b => some (.bool b) | .neq => bnd (eqv x y) fun b => some (.bool !b) | _ => none) else none := rfl
@[simp] theorem hasTy_row_tPass (vs : List AV) (n : Nat) : hasTy (.node vs) (.arr n tPass) = (decide (vs.length = n) && hasTyAll vs tPass) := rfl
@[simp] theorem mFieldAddr_tPass_0 (b ver : Nat) (path : List Nat) : mFieldAddr tPass (.ptr b ver path tPass) 0 = some (.ptr b ver (path ++ [0]) (.arr 32 (.int .u8))) := by simp [mFieldAddr, tPass]
@[simp] theorem mField_tPass_0 (vs : List AV) : mField tPass (.node vs) 0 = if hasTys vs [(.arr 32 (.int .u8)), (.arr 32 (.int .u8)), (.arr 32 (.int .u8)), tProof] then vs[0]? else none := rfl
@[simp] theorem mFieldAddr_tPass_1 (b ver : Nat) (path : List Nat) : mFieldAddr tPass (.ptr b ver path tPass) 1 = some (.ptr b ver (path ++ [1]) (.arr 32 (.int .u8))) := by simp [mFieldAddr, tPass]
@[simp] theorem mField_tPass_1 (vs : List AV) : mField tPass (.node vs) 1 = if hasTys vs [(.arr 32 (.int .u8)), (.arr 32 (.int .u8)), (.arr 32 (.int .u8)), tProof] then vs[1]? else none := rfl
@[simp] theorem mFieldAddr_tPass_2 (b ver : Nat) (path : List Nat) : mFieldAddr tPass (.ptr b ver path tPass) 2 = some (.ptr b ver (path ++ [2]) (.arr 32 (.int .u8))) := by simp [mFieldAddr, tPass]
@[simp] theorem mField_tPass_2 (vs : List AV) : mField tPass (.node vs) 2 = if hasTys vs [(.arr 32 (.int .u8)), (.arr 32 (.int .u8)), (.arr 32 (.int .u8)), tProof] then vs[2]? else none := rfl
@[simp] theorem mFieldAddr_tPass_3 (b ver : Nat) (path : List Nat) : mFieldAddr tPass (.ptr b ver path tPass) 3 = some (.ptr b ver (path ++ [3]) tProof) := by simp [mFieldAddr, tPass]
@[simp] theorem mField_tPass_3 (vs : List AV) : mField tPass (.node vs) 3 = if hasTys vs [(.arr 32 (.int .u8)), (.arr 32 (.int .u8)), (.arr 32 (.int .u8)), tProof] then vs[3]? else none := rfl
def tTied : Ty := (.struct [(.arr 32 (.int .u8)), tProof])
theorem tTied_x : tTied = (.struct [(.arr 32 (.int .u8)), tProof]) := rfl
@[simp] theorem hasTy_tTied (vs : List AV) : hasTy (.node vs) tTied = hasTys vs [(.arr 32 (.int .u8)), tProof] := rfl
@[simp] theorem size_tTied : Ty.size tTied = 65 := by rfl
@[simp] theorem mEq_tTied (op : BinOp) (x y : AV) : mEq tTied op x y = if hasTy x tTied && hasTy y tTied then (match op with | .eql => bnd (eqv x y) fun b => some (.bool b) | .neq => bnd (eqv x y) fun b => some (.bool !b) | _ => none) else none := rfl
@[simp] theorem hasTy_row_tTied (vs : List AV) (n : Nat) : hasTy (.node vs) (.arr n tTied) = (decide (vs.length = n) && hasTyAll vs tTied) := rfl
@[simp] theorem mFieldAddr_tTied_0 (b ver : Nat) (path : List Nat) : mFieldAddr tTied (.ptr b ver path tTied) 0 = some (.ptr b ver (path ++ [0]) (.arr 32 (.int .u8))) := by simp [mFieldAddr, tTied]
@[simp] theorem mField_tTied_0 (vs : List AV) : mField tTied (.node vs) 0 = if hasTys vs [(.arr 32 (.int .u8)), tProof] then vs[0]? else none := rfl
@[simp] theorem mFieldAddr_tTied_1 (b ver : Nat) (path : List Nat) : mFieldAddr tTied (.ptr b ver path tTied) 1 = some (.ptr b ver (path ++ [1]) tProof) := by simp [mFieldAddr, tTied]
@[simp] theorem mField_tTied_1 (vs : List AV) : mField tTied (.node vs) 1 = if hasTys vs [(.arr 32 (.int .u8)), tProof] then vs[1]? else none := rfl
def tShown : Ty := (.struct [tPass, tTied])
theorem tShown_x : tShown = (.struct [tPass, tTied]) := rfl
@[simp] theorem hasTy_tShown (vs : List AV) : hasTy (.node vs) tShown = hasTys vs [tPass, tTied] := rfl
@[simp] theorem size_tShown : Ty.size tShown = 194 := by rfl
@[simp] theorem mEq_tShown (op : BinOp) (x y : AV) : mEq tShown op x y = if hasTy x tShown && hasTy y tShown then (match op with | .eql => bnd (eqv x y) fun b => some (.bool b) | .neq => bnd (eqv x y) fun b => some (.bool !b) | _ => none) else none := rfl
@[simp] theorem hasTy_row_tShown (vs : List AV) (n : Nat) : hasTy (.node vs) (.arr n tShown) = (decide (vs.length = n) && hasTyAll vs tShown) := rfl
@[simp] theorem mFieldAddr_tShown_0 (b ver : Nat) (path : List Nat) : mFieldAddr tShown (.ptr b ver path tShown) 0 = some (.ptr b ver (path ++ [0]) tPass) := by simp [mFieldAddr, tShown]
@[simp] theorem mField_tShown_0 (vs : List AV) : mField tShown (.node vs) 0 = if hasTys vs [tPass, tTied] then vs[0]? else none := rfl
@[simp] theorem mFieldAddr_tShown_1 (b ver : Nat) (path : List Nat) : mFieldAddr tShown (.ptr b ver path tShown) 1 = some (.ptr b ver (path ++ [1]) tTied) := by simp [mFieldAddr, tShown]
@[simp] theorem mField_tShown_1 (vs : List AV) : mField tShown (.node vs) 1 = if hasTys vs [tPass, tTied] then vs[1]? else none := rfl
def tVoucher : Ty := (.struct [(.arr 32 (.int .u8)), (.arr 32 (.int .u8)), (.arr 32 (.int .u8)), (.arr 32 (.int .u8)), (.arr 32 (.int .u8)), tProof])
theorem tVoucher_x : tVoucher = (.struct [(.arr 32 (.int .u8)), (.arr 32 (.int .u8)), (.arr 32 (.int .u8)), (.arr 32 (.int .u8)), (.arr 32 (.int .u8)), tProof]) := rfl
@[simp] theorem hasTy_tVoucher (vs : List AV) : hasTy (.node vs) tVoucher = hasTys vs [(.arr 32 (.int .u8)), (.arr 32 (.int .u8)), (.arr 32 (.int .u8)), (.arr 32 (.int .u8)), (.arr 32 (.int .u8)), tProof] := rfl
@[simp] theorem size_tVoucher : Ty.size tVoucher = 193 := by rfl
@[simp] theorem mEq_tVoucher (op : BinOp) (x y : AV) : mEq tVoucher op x y = if hasTy x tVoucher && hasTy y tVoucher then (match op with | .eql => bnd (eqv x y) fun b => some (.bool b) | .neq => bnd (eqv x y) fun b => some (.bool !b) | _ => none) else none := rfl
@[simp] theorem hasTy_row_tVoucher (vs : List AV) (n : Nat) : hasTy (.node vs) (.arr n tVoucher) = (decide (vs.length = n) && hasTyAll vs tVoucher) := rfl
@[simp] theorem mFieldAddr_tVoucher_0 (b ver : Nat) (path : List Nat) : mFieldAddr tVoucher (.ptr b ver path tVoucher) 0 = some (.ptr b ver (path ++ [0]) (.arr 32 (.int .u8))) := by simp [mFieldAddr, tVoucher]
@[simp] theorem mField_tVoucher_0 (vs : List AV) : mField tVoucher (.node vs) 0 = if hasTys vs [(.arr 32 (.int .u8)), (.arr 32 (.int .u8)), (.arr 32 (.int .u8)), (.arr 32 (.int .u8)), (.arr 32 (.int .u8)), tProof] then vs[0]? else none := rfl
@[simp] theorem mFieldAddr_tVoucher_1 (b ver : Nat) (path : List Nat) : mFieldAddr tVoucher (.ptr b ver path tVoucher) 1 = some (.ptr b ver (path ++ [1]) (.arr 32 (.int .u8))) := by simp [mFieldAddr, tVoucher]
@[simp] theorem mField_tVoucher_1 (vs : List AV) : mField tVoucher (.node vs) 1 = if hasTys vs [(.arr 32 (.int .u8)), (.arr 32 (.int .u8)), (.arr 32 (.int .u8)), (.arr 32 (.int .u8)), (.arr 32 (.int .u8)), tProof] then vs[1]? else none := rfl
@[simp] theorem mFieldAddr_tVoucher_2 (b ver : Nat) (path : List Nat) : mFieldAddr tVoucher (.ptr b ver path tVoucher) 2 = some (.ptr b ver (path ++ [2]) (.arr 32 (.int .u8))) := by simp [mFieldAddr, tVoucher]
@[simp] theorem mField_tVoucher_2 (vs : List AV) : mField tVoucher (.node vs) 2 = if hasTys vs [(.arr 32 (.int .u8)), (.arr 32 (.int .u8)), (.arr 32 (.int .u8)), (.arr 32 (.int .u8)), (.arr 32 (.int .u8)), tProof] then vs[2]? else none := rfl
@[simp] theorem mFieldAddr_tVoucher_3 (b ver : Nat) (path : List Nat) : mFieldAddr tVoucher (.ptr b ver path tVoucher) 3 = some (.ptr b ver (path ++ [3]) (.arr 32 (.int .u8))) := by simp [mFieldAddr, tVoucher]
@[simp] theorem mField_tVoucher_3 (vs : List AV) : mField tVoucher (.node vs) 3 = if hasTys vs [(.arr 32 (.int .u8)), (.arr 32 (.int .u8)), (.arr 32 (.int .u8)), (.arr 32 (.int .u8)), (.arr 32 (.int .u8)), tProof] then vs[3]? else none := rfl
@[simp] theorem mFieldAddr_tVoucher_4 (b ver : Nat) (path : List Nat) : mFieldAddr tVoucher (.ptr b ver path tVoucher) 4 = some (.ptr b ver (path ++ [4]) (.arr 32 (.int .u8))) := by simp [mFieldAddr, tVoucher]
@[simp] theorem mField_tVoucher_4 (vs : List AV) : mField tVoucher (.node vs) 4 = if hasTys vs [(.arr 32 (.int .u8)), (.arr 32 (.int .u8)), (.arr 32 (.int .u8)), (.arr 32 (.int .u8)), (.arr 32 (.int .u8)), tProof] then vs[4]? else none := rfl
@[simp] theorem mFieldAddr_tVoucher_5 (b ver : Nat) (path : List Nat) : mFieldAddr tVoucher (.ptr b ver path tVoucher) 5 = some (.ptr b ver (path ++ [5]) tProof) := by simp [mFieldAddr, tVoucher]
@[simp] theorem mField_tVoucher_5 (vs : List AV) : mField tVoucher (.node vs) 5 = if hasTys vs [(.arr 32 (.int .u8)), (.arr 32 (.int .u8)), (.arr 32 (.int .u8)), (.arr 32 (.int .u8)), (.arr 32 (.int .u8)), tProof] then vs[5]? else none := rfl
def tRequest : Ty := (.struct [(.int .u8), (.arr 16 (.int .u8)), (.int .u32), tPublic, .cell, tAccess, tCipher, .cell, tAction, (.int .u32), tShown, tVoucher])
theorem tRequest_x : tRequest = (.struct [(.int .u8), (.arr 16 (.int .u8)), (.int .u32), tPublic, .cell, tAccess, tCipher, .cell, tAction, (.int .u32), tShown, tVoucher]) := rfl
@[simp] theorem hasTy_tRequest (vs : List AV) : hasTy (.node vs) tRequest = hasTys vs [(.int .u8), (.arr 16 (.int .u8)), (.int .u32), tPublic, .cell, tAccess, tCipher, .cell, tAction, (.int .u32), tShown, tVoucher] := rfl
@[simp] theorem size_tRequest : Ty.size tRequest = 643 := by rfl
@[simp] theorem mEq_tRequest (op : BinOp) (x y : AV) : mEq tRequest op x y = if hasTy x tRequest && hasTy y tRequest then (match op with | .eql => bnd (eqv x y) fun b => some (.bool b) | .neq => bnd (eqv x y) fun b => some (.bool !b) | _ => none) else none := rfl
@[simp] theorem hasTy_row_tRequest (vs : List AV) (n : Nat) : hasTy (.node vs) (.arr n tRequest) = (decide (vs.length = n) && hasTyAll vs tRequest) := rfl
@[simp] theorem mFieldAddr_tRequest_0 (b ver : Nat) (path : List Nat) : mFieldAddr tRequest (.ptr b ver path tRequest) 0 = some (.ptr b ver (path ++ [0]) (.int .u8)) := by simp [mFieldAddr, tRequest]
@[simp] theorem mField_tRequest_0 (vs : List AV) : mField tRequest (.node vs) 0 = if hasTys vs [(.int .u8), (.arr 16 (.int .u8)), (.int .u32), tPublic, .cell, tAccess, tCipher, .cell, tAction, (.int .u32), tShown, tVoucher] then vs[0]? else none := rfl
@[simp] theorem mFieldAddr_tRequest_1 (b ver : Nat) (path : List Nat) : mFieldAddr tRequest (.ptr b ver path tRequest) 1 = some (.ptr b ver (path ++ [1]) (.arr 16 (.int .u8))) := by simp [mFieldAddr, tRequest]
@[simp] theorem mField_tRequest_1 (vs : List AV) : mField tRequest (.node vs) 1 = if hasTys vs [(.int .u8), (.arr 16 (.int .u8)), (.int .u32), tPublic, .cell, tAccess, tCipher, .cell, tAction, (.int .u32), tShown, tVoucher] then vs[1]? else none := rfl
@[simp] theorem mFieldAddr_tRequest_2 (b ver : Nat) (path : List Nat) : mFieldAddr tRequest (.ptr b ver path tRequest) 2 = some (.ptr b ver (path ++ [2]) (.int .u32)) := by simp [mFieldAddr, tRequest]
@[simp] theorem mField_tRequest_2 (vs : List AV) : mField tRequest (.node vs) 2 = if hasTys vs [(.int .u8), (.arr 16 (.int .u8)), (.int .u32), tPublic, .cell, tAccess, tCipher, .cell, tAction, (.int .u32), tShown, tVoucher] then vs[2]? else none := rfl
@[simp] theorem mFieldAddr_tRequest_3 (b ver : Nat) (path : List Nat) : mFieldAddr tRequest (.ptr b ver path tRequest) 3 = some (.ptr b ver (path ++ [3]) tPublic) := by simp [mFieldAddr, tRequest]
@[simp] theorem mField_tRequest_3 (vs : List AV) : mField tRequest (.node vs) 3 = if hasTys vs [(.int .u8), (.arr 16 (.int .u8)), (.int .u32), tPublic, .cell, tAccess, tCipher, .cell, tAction, (.int .u32), tShown, tVoucher] then vs[3]? else none := rfl
@[simp] theorem mFieldAddr_tRequest_4 (b ver : Nat) (path : List Nat) : mFieldAddr tRequest (.ptr b ver path tRequest) 4 = some (.ptr b ver (path ++ [4]) .cell) := by simp [mFieldAddr, tRequest]
@[simp] theorem mField_tRequest_4 (vs : List AV) : mField tRequest (.node vs) 4 = if hasTys vs [(.int .u8), (.arr 16 (.int .u8)), (.int .u32), tPublic, .cell, tAccess, tCipher, .cell, tAction, (.int .u32), tShown, tVoucher] then vs[4]? else none := rfl
@[simp] theorem mFieldAddr_tRequest_5 (b ver : Nat) (path : List Nat) : mFieldAddr tRequest (.ptr b ver path tRequest) 5 = some (.ptr b ver (path ++ [5]) tAccess) := by simp [mFieldAddr, tRequest]
@[simp] theorem mField_tRequest_5 (vs : List AV) : mField tRequest (.node vs) 5 = if hasTys vs [(.int .u8), (.arr 16 (.int .u8)), (.int .u32), tPublic, .cell, tAccess, tCipher, .cell, tAction, (.int .u32), tShown, tVoucher] then vs[5]? else none := rfl
@[simp] theorem mFieldAddr_tRequest_6 (b ver : Nat) (path : List Nat) : mFieldAddr tRequest (.ptr b ver path tRequest) 6 = some (.ptr b ver (path ++ [6]) tCipher) := by simp [mFieldAddr, tRequest]
@[simp] theorem mField_tRequest_6 (vs : List AV) : mField tRequest (.node vs) 6 = if hasTys vs [(.int .u8), (.arr 16 (.int .u8)), (.int .u32), tPublic, .cell, tAccess, tCipher, .cell, tAction, (.int .u32), tShown, tVoucher] then vs[6]? else none := rfl
@[simp] theorem mFieldAddr_tRequest_7 (b ver : Nat) (path : List Nat) : mFieldAddr tRequest (.ptr b ver path tRequest) 7 = some (.ptr b ver (path ++ [7]) .cell) := by simp [mFieldAddr, tRequest]
@[simp] theorem mField_tRequest_7 (vs : List AV) : mField tRequest (.node vs) 7 = if hasTys vs [(.int .u8), (.arr 16 (.int .u8)), (.int .u32), tPublic, .cell, tAccess, tCipher, .cell, tAction, (.int .u32), tShown, tVoucher] then vs[7]? else none := rfl
@[simp] theorem mFieldAddr_tRequest_8 (b ver : Nat) (path : List Nat) : mFieldAddr tRequest (.ptr b ver path tRequest) 8 = some (.ptr b ver (path ++ [8]) tAction) := by simp [mFieldAddr, tRequest]
@[simp] theorem mField_tRequest_8 (vs : List AV) : mField tRequest (.node vs) 8 = if hasTys vs [(.int .u8), (.arr 16 (.int .u8)), (.int .u32), tPublic, .cell, tAccess, tCipher, .cell, tAction, (.int .u32), tShown, tVoucher] then vs[8]? else none := rfl
@[simp] theorem mFieldAddr_tRequest_9 (b ver : Nat) (path : List Nat) : mFieldAddr tRequest (.ptr b ver path tRequest) 9 = some (.ptr b ver (path ++ [9]) (.int .u32)) := by simp [mFieldAddr, tRequest]
@[simp] theorem mField_tRequest_9 (vs : List AV) : mField tRequest (.node vs) 9 = if hasTys vs [(.int .u8), (.arr 16 (.int .u8)), (.int .u32), tPublic, .cell, tAccess, tCipher, .cell, tAction, (.int .u32), tShown, tVoucher] then vs[9]? else none := rfl
@[simp] theorem mFieldAddr_tRequest_10 (b ver : Nat) (path : List Nat) : mFieldAddr tRequest (.ptr b ver path tRequest) 10 = some (.ptr b ver (path ++ [10]) tShown) := by simp [mFieldAddr, tRequest]
@[simp] theorem mField_tRequest_10 (vs : List AV) : mField tRequest (.node vs) 10 = if hasTys vs [(.int .u8), (.arr 16 (.int .u8)), (.int .u32), tPublic, .cell, tAccess, tCipher, .cell, tAction, (.int .u32), tShown, tVoucher] then vs[10]? else none := rfl
@[simp] theorem mFieldAddr_tRequest_11 (b ver : Nat) (path : List Nat) : mFieldAddr tRequest (.ptr b ver path tRequest) 11 = some (.ptr b ver (path ++ [11]) tVoucher) := by simp [mFieldAddr, tRequest]
@[simp] theorem mField_tRequest_11 (vs : List AV) : mField tRequest (.node vs) 11 = if hasTys vs [(.int .u8), (.arr 16 (.int .u8)), (.int .u32), tPublic, .cell, tAccess, tCipher, .cell, tAction, (.int .u32), tShown, tVoucher] then vs[11]? else none := rfl
def tToken : Ty := (.struct [(.arr 32 (.int .u8)), (.arr 32 (.int .u8))])
theorem tToken_x : tToken = (.struct [(.arr 32 (.int .u8)), (.arr 32 (.int .u8))]) := rfl
@[simp] theorem hasTy_tToken (vs : List AV) : hasTy (.node vs) tToken = hasTys vs [(.arr 32 (.int .u8)), (.arr 32 (.int .u8))] := rfl
@[simp] theorem size_tToken : Ty.size tToken = 64 := by rfl
@[simp] theorem mEq_tToken (op : BinOp) (x y : AV) : mEq tToken op x y = if hasTy x tToken && hasTy y tToken then (match op with | .eql => bnd (eqv x y) fun b => some (.bool b) | .neq => bnd (eqv x y) fun b => some (.bool !b) | _ => none) else none := rfl
@[simp] theorem hasTy_row_tToken (vs : List AV) (n : Nat) : hasTy (.node vs) (.arr n tToken) = (decide (vs.length = n) && hasTyAll vs tToken) := rfl
@[simp] theorem mFieldAddr_tToken_0 (b ver : Nat) (path : List Nat) : mFieldAddr tToken (.ptr b ver path tToken) 0 = some (.ptr b ver (path ++ [0]) (.arr 32 (.int .u8))) := by simp [mFieldAddr, tToken]
@[simp] theorem mField_tToken_0 (vs : List AV) : mField tToken (.node vs) 0 = if hasTys vs [(.arr 32 (.int .u8)), (.arr 32 (.int .u8))] then vs[0]? else none := rfl
@[simp] theorem mFieldAddr_tToken_1 (b ver : Nat) (path : List Nat) : mFieldAddr tToken (.ptr b ver path tToken) 1 = some (.ptr b ver (path ++ [1]) (.arr 32 (.int .u8))) := by simp [mFieldAddr, tToken]
@[simp] theorem mField_tToken_1 (vs : List AV) : mField tToken (.node vs) 1 = if hasTys vs [(.arr 32 (.int .u8)), (.arr 32 (.int .u8))] then vs[1]? else none := rfl
def tGrant : Ty := (.struct [tToken, tProof])
theorem tGrant_x : tGrant = (.struct [tToken, tProof]) := rfl
@[simp] theorem hasTy_tGrant (vs : List AV) : hasTy (.node vs) tGrant = hasTys vs [tToken, tProof] := rfl
@[simp] theorem size_tGrant : Ty.size tGrant = 97 := by rfl
@[simp] theorem mEq_tGrant (op : BinOp) (x y : AV) : mEq tGrant op x y = if hasTy x tGrant && hasTy y tGrant then (match op with | .eql => bnd (eqv x y) fun b => some (.bool b) | .neq => bnd (eqv x y) fun b => some (.bool !b) | _ => none) else none := rfl
@[simp] theorem hasTy_row_tGrant (vs : List AV) (n : Nat) : hasTy (.node vs) (.arr n tGrant) = (decide (vs.length = n) && hasTyAll vs tGrant) := rfl
@[simp] theorem mFieldAddr_tGrant_0 (b ver : Nat) (path : List Nat) : mFieldAddr tGrant (.ptr b ver path tGrant) 0 = some (.ptr b ver (path ++ [0]) tToken) := by simp [mFieldAddr, tGrant]
@[simp] theorem mField_tGrant_0 (vs : List AV) : mField tGrant (.node vs) 0 = if hasTys vs [tToken, tProof] then vs[0]? else none := rfl
@[simp] theorem mFieldAddr_tGrant_1 (b ver : Nat) (path : List Nat) : mFieldAddr tGrant (.ptr b ver path tGrant) 1 = some (.ptr b ver (path ++ [1]) tProof) := by simp [mFieldAddr, tGrant]
@[simp] theorem mField_tGrant_1 (vs : List AV) : mField tGrant (.node vs) 1 = if hasTys vs [tToken, tProof] then vs[1]? else none := rfl
def tReply : Ty := (.struct [(.int .i64), (.int .u8), tState, .cell, tGrant])
theorem tReply_x : tReply = (.struct [(.int .i64), (.int .u8), tState, .cell, tGrant]) := rfl
@[simp] theorem hasTy_tReply (vs : List AV) : hasTy (.node vs) tReply = hasTys vs [(.int .i64), (.int .u8), tState, .cell, tGrant] := rfl
@[simp] theorem size_tReply : Ty.size tReply = 174 := by rfl
@[simp] theorem mEq_tReply (op : BinOp) (x y : AV) : mEq tReply op x y = if hasTy x tReply && hasTy y tReply then (match op with | .eql => bnd (eqv x y) fun b => some (.bool b) | .neq => bnd (eqv x y) fun b => some (.bool !b) | _ => none) else none := rfl
@[simp] theorem hasTy_row_tReply (vs : List AV) (n : Nat) : hasTy (.node vs) (.arr n tReply) = (decide (vs.length = n) && hasTyAll vs tReply) := rfl
@[simp] theorem mFieldAddr_tReply_0 (b ver : Nat) (path : List Nat) : mFieldAddr tReply (.ptr b ver path tReply) 0 = some (.ptr b ver (path ++ [0]) (.int .i64)) := by simp [mFieldAddr, tReply]
@[simp] theorem mField_tReply_0 (vs : List AV) : mField tReply (.node vs) 0 = if hasTys vs [(.int .i64), (.int .u8), tState, .cell, tGrant] then vs[0]? else none := rfl
@[simp] theorem mFieldAddr_tReply_1 (b ver : Nat) (path : List Nat) : mFieldAddr tReply (.ptr b ver path tReply) 1 = some (.ptr b ver (path ++ [1]) (.int .u8)) := by simp [mFieldAddr, tReply]
@[simp] theorem mField_tReply_1 (vs : List AV) : mField tReply (.node vs) 1 = if hasTys vs [(.int .i64), (.int .u8), tState, .cell, tGrant] then vs[1]? else none := rfl
@[simp] theorem mFieldAddr_tReply_2 (b ver : Nat) (path : List Nat) : mFieldAddr tReply (.ptr b ver path tReply) 2 = some (.ptr b ver (path ++ [2]) tState) := by simp [mFieldAddr, tReply]
@[simp] theorem mField_tReply_2 (vs : List AV) : mField tReply (.node vs) 2 = if hasTys vs [(.int .i64), (.int .u8), tState, .cell, tGrant] then vs[2]? else none := rfl
@[simp] theorem mFieldAddr_tReply_3 (b ver : Nat) (path : List Nat) : mFieldAddr tReply (.ptr b ver path tReply) 3 = some (.ptr b ver (path ++ [3]) .cell) := by simp [mFieldAddr, tReply]
@[simp] theorem mField_tReply_3 (vs : List AV) : mField tReply (.node vs) 3 = if hasTys vs [(.int .i64), (.int .u8), tState, .cell, tGrant] then vs[3]? else none := rfl
@[simp] theorem mFieldAddr_tReply_4 (b ver : Nat) (path : List Nat) : mFieldAddr tReply (.ptr b ver path tReply) 4 = some (.ptr b ver (path ++ [4]) tGrant) := by simp [mFieldAddr, tReply]
@[simp] theorem mField_tReply_4 (vs : List AV) : mField tReply (.node vs) 4 = if hasTys vs [(.int .i64), (.int .u8), tState, .cell, tGrant] then vs[4]? else none := rfl
def tSeat : Ty := (.struct [tCipher, (.int .u8), (.int .u32)])
theorem tSeat_x : tSeat = (.struct [tCipher, (.int .u8), (.int .u32)]) := rfl
@[simp] theorem hasTy_tSeat (vs : List AV) : hasTy (.node vs) tSeat = hasTys vs [tCipher, (.int .u8), (.int .u32)] := rfl
@[simp] theorem size_tSeat : Ty.size tSeat = 66 := by rfl
@[simp] theorem mEq_tSeat (op : BinOp) (x y : AV) : mEq tSeat op x y = if hasTy x tSeat && hasTy y tSeat then (match op with | .eql => bnd (eqv x y) fun b => some (.bool b) | .neq => bnd (eqv x y) fun b => some (.bool !b) | _ => none) else none := rfl
@[simp] theorem hasTy_row_tSeat (vs : List AV) (n : Nat) : hasTy (.node vs) (.arr n tSeat) = (decide (vs.length = n) && hasTyAll vs tSeat) := rfl
@[simp] theorem mFieldAddr_tSeat_0 (b ver : Nat) (path : List Nat) : mFieldAddr tSeat (.ptr b ver path tSeat) 0 = some (.ptr b ver (path ++ [0]) tCipher) := by simp [mFieldAddr, tSeat]
@[simp] theorem mField_tSeat_0 (vs : List AV) : mField tSeat (.node vs) 0 = if hasTys vs [tCipher, (.int .u8), (.int .u32)] then vs[0]? else none := rfl
@[simp] theorem mFieldAddr_tSeat_1 (b ver : Nat) (path : List Nat) : mFieldAddr tSeat (.ptr b ver path tSeat) 1 = some (.ptr b ver (path ++ [1]) (.int .u8)) := by simp [mFieldAddr, tSeat]
@[simp] theorem mField_tSeat_1 (vs : List AV) : mField tSeat (.node vs) 1 = if hasTys vs [tCipher, (.int .u8), (.int .u32)] then vs[1]? else none := rfl
@[simp] theorem mFieldAddr_tSeat_2 (b ver : Nat) (path : List Nat) : mFieldAddr tSeat (.ptr b ver path tSeat) 2 = some (.ptr b ver (path ++ [2]) (.int .u32)) := by simp [mFieldAddr, tSeat]
@[simp] theorem mField_tSeat_2 (vs : List AV) : mField tSeat (.node vs) 2 = if hasTys vs [tCipher, (.int .u8), (.int .u32)] then vs[2]? else none := rfl
def tInvite : Ty := (.struct [tCipher, (.int .u8), tCipher])
theorem tInvite_x : tInvite = (.struct [tCipher, (.int .u8), tCipher]) := rfl
@[simp] theorem hasTy_tInvite (vs : List AV) : hasTy (.node vs) tInvite = hasTys vs [tCipher, (.int .u8), tCipher] := rfl
@[simp] theorem size_tInvite : Ty.size tInvite = 129 := by rfl
@[simp] theorem mEq_tInvite (op : BinOp) (x y : AV) : mEq tInvite op x y = if hasTy x tInvite && hasTy y tInvite then (match op with | .eql => bnd (eqv x y) fun b => some (.bool b) | .neq => bnd (eqv x y) fun b => some (.bool !b) | _ => none) else none := rfl
@[simp] theorem hasTy_row_tInvite (vs : List AV) (n : Nat) : hasTy (.node vs) (.arr n tInvite) = (decide (vs.length = n) && hasTyAll vs tInvite) := rfl
@[simp] theorem mFieldAddr_tInvite_0 (b ver : Nat) (path : List Nat) : mFieldAddr tInvite (.ptr b ver path tInvite) 0 = some (.ptr b ver (path ++ [0]) tCipher) := by simp [mFieldAddr, tInvite]
@[simp] theorem mField_tInvite_0 (vs : List AV) : mField tInvite (.node vs) 0 = if hasTys vs [tCipher, (.int .u8), tCipher] then vs[0]? else none := rfl
@[simp] theorem mFieldAddr_tInvite_1 (b ver : Nat) (path : List Nat) : mFieldAddr tInvite (.ptr b ver path tInvite) 1 = some (.ptr b ver (path ++ [1]) (.int .u8)) := by simp [mFieldAddr, tInvite]
@[simp] theorem mField_tInvite_1 (vs : List AV) : mField tInvite (.node vs) 1 = if hasTys vs [tCipher, (.int .u8), tCipher] then vs[1]? else none := rfl
@[simp] theorem mFieldAddr_tInvite_2 (b ver : Nat) (path : List Nat) : mFieldAddr tInvite (.ptr b ver path tInvite) 2 = some (.ptr b ver (path ++ [2]) tCipher) := by simp [mFieldAddr, tInvite]
@[simp] theorem mField_tInvite_2 (vs : List AV) : mField tInvite (.node vs) 2 = if hasTys vs [tCipher, (.int .u8), tCipher] then vs[2]? else none := rfl
def tAsk : Ty := (.struct [tCipher, (.int .u32)])
theorem tAsk_x : tAsk = (.struct [tCipher, (.int .u32)]) := rfl
@[simp] theorem hasTy_tAsk (vs : List AV) : hasTy (.node vs) tAsk = hasTys vs [tCipher, (.int .u32)] := rfl
@[simp] theorem size_tAsk : Ty.size tAsk = 65 := by rfl
@[simp] theorem mEq_tAsk (op : BinOp) (x y : AV) : mEq tAsk op x y = if hasTy x tAsk && hasTy y tAsk then (match op with | .eql => bnd (eqv x y) fun b => some (.bool b) | .neq => bnd (eqv x y) fun b => some (.bool !b) | _ => none) else none := rfl
@[simp] theorem hasTy_row_tAsk (vs : List AV) (n : Nat) : hasTy (.node vs) (.arr n tAsk) = (decide (vs.length = n) && hasTyAll vs tAsk) := rfl
@[simp] theorem mFieldAddr_tAsk_0 (b ver : Nat) (path : List Nat) : mFieldAddr tAsk (.ptr b ver path tAsk) 0 = some (.ptr b ver (path ++ [0]) tCipher) := by simp [mFieldAddr, tAsk]
@[simp] theorem mField_tAsk_0 (vs : List AV) : mField tAsk (.node vs) 0 = if hasTys vs [tCipher, (.int .u32)] then vs[0]? else none := rfl
@[simp] theorem mFieldAddr_tAsk_1 (b ver : Nat) (path : List Nat) : mFieldAddr tAsk (.ptr b ver path tAsk) 1 = some (.ptr b ver (path ++ [1]) (.int .u32)) := by simp [mFieldAddr, tAsk]
@[simp] theorem mField_tAsk_1 (vs : List AV) : mField tAsk (.node vs) 1 = if hasTys vs [tCipher, (.int .u32)] then vs[1]? else none := rfl
def tBan : Ty := (.struct [tCipher, tCipher])
theorem tBan_x : tBan = (.struct [tCipher, tCipher]) := rfl
@[simp] theorem hasTy_tBan (vs : List AV) : hasTy (.node vs) tBan = hasTys vs [tCipher, tCipher] := rfl
@[simp] theorem size_tBan : Ty.size tBan = 128 := by rfl
@[simp] theorem mEq_tBan (op : BinOp) (x y : AV) : mEq tBan op x y = if hasTy x tBan && hasTy y tBan then (match op with | .eql => bnd (eqv x y) fun b => some (.bool b) | .neq => bnd (eqv x y) fun b => some (.bool !b) | _ => none) else none := rfl
@[simp] theorem hasTy_row_tBan (vs : List AV) (n : Nat) : hasTy (.node vs) (.arr n tBan) = (decide (vs.length = n) && hasTyAll vs tBan) := rfl
@[simp] theorem mFieldAddr_tBan_0 (b ver : Nat) (path : List Nat) : mFieldAddr tBan (.ptr b ver path tBan) 0 = some (.ptr b ver (path ++ [0]) tCipher) := by simp [mFieldAddr, tBan]
@[simp] theorem mField_tBan_0 (vs : List AV) : mField tBan (.node vs) 0 = if hasTys vs [tCipher, tCipher] then vs[0]? else none := rfl
@[simp] theorem mFieldAddr_tBan_1 (b ver : Nat) (path : List Nat) : mFieldAddr tBan (.ptr b ver path tBan) 1 = some (.ptr b ver (path ++ [1]) tCipher) := by simp [mFieldAddr, tBan]
@[simp] theorem mField_tBan_1 (vs : List AV) : mField tBan (.node vs) 1 = if hasTys vs [tCipher, tCipher] then vs[1]? else none := rfl
def tSignature : Ty := (.struct [(.arr 32 (.int .u8)), (.arr 32 (.int .u8))])
theorem tSignature_x : tSignature = (.struct [(.arr 32 (.int .u8)), (.arr 32 (.int .u8))]) := rfl
@[simp] theorem hasTy_tSignature (vs : List AV) : hasTy (.node vs) tSignature = hasTys vs [(.arr 32 (.int .u8)), (.arr 32 (.int .u8))] := rfl
@[simp] theorem size_tSignature : Ty.size tSignature = 64 := by rfl
@[simp] theorem mEq_tSignature (op : BinOp) (x y : AV) : mEq tSignature op x y = if hasTy x tSignature && hasTy y tSignature then (match op with | .eql => bnd (eqv x y) fun b => some (.bool b) | .neq => bnd (eqv x y) fun b => some (.bool !b) | _ => none) else none := rfl
@[simp] theorem hasTy_row_tSignature (vs : List AV) (n : Nat) : hasTy (.node vs) (.arr n tSignature) = (decide (vs.length = n) && hasTyAll vs tSignature) := rfl
@[simp] theorem mFieldAddr_tSignature_0 (b ver : Nat) (path : List Nat) : mFieldAddr tSignature (.ptr b ver path tSignature) 0 = some (.ptr b ver (path ++ [0]) (.arr 32 (.int .u8))) := by simp [mFieldAddr, tSignature]
@[simp] theorem mField_tSignature_0 (vs : List AV) : mField tSignature (.node vs) 0 = if hasTys vs [(.arr 32 (.int .u8)), (.arr 32 (.int .u8))] then vs[0]? else none := rfl
@[simp] theorem mFieldAddr_tSignature_1 (b ver : Nat) (path : List Nat) : mFieldAddr tSignature (.ptr b ver path tSignature) 1 = some (.ptr b ver (path ++ [1]) (.arr 32 (.int .u8))) := by simp [mFieldAddr, tSignature]
@[simp] theorem mField_tSignature_1 (vs : List AV) : mField tSignature (.node vs) 1 = if hasTys vs [(.arr 32 (.int .u8)), (.arr 32 (.int .u8))] then vs[1]? else none := rfl
def tDelta : Ty := (.struct [.cell, tSignature])
theorem tDelta_x : tDelta = (.struct [.cell, tSignature]) := rfl
@[simp] theorem hasTy_tDelta (vs : List AV) : hasTy (.node vs) tDelta = hasTys vs [.cell, tSignature] := rfl
@[simp] theorem size_tDelta : Ty.size tDelta = 65 := by rfl
@[simp] theorem mEq_tDelta (op : BinOp) (x y : AV) : mEq tDelta op x y = if hasTy x tDelta && hasTy y tDelta then (match op with | .eql => bnd (eqv x y) fun b => some (.bool b) | .neq => bnd (eqv x y) fun b => some (.bool !b) | _ => none) else none := rfl
@[simp] theorem hasTy_row_tDelta (vs : List AV) (n : Nat) : hasTy (.node vs) (.arr n tDelta) = (decide (vs.length = n) && hasTyAll vs tDelta) := rfl
@[simp] theorem mFieldAddr_tDelta_0 (b ver : Nat) (path : List Nat) : mFieldAddr tDelta (.ptr b ver path tDelta) 0 = some (.ptr b ver (path ++ [0]) .cell) := by simp [mFieldAddr, tDelta]
@[simp] theorem mField_tDelta_0 (vs : List AV) : mField tDelta (.node vs) 0 = if hasTys vs [.cell, tSignature] then vs[0]? else none := rfl
@[simp] theorem mFieldAddr_tDelta_1 (b ver : Nat) (path : List Nat) : mFieldAddr tDelta (.ptr b ver path tDelta) 1 = some (.ptr b ver (path ++ [1]) tSignature) := by simp [mFieldAddr, tDelta]
@[simp] theorem mField_tDelta_1 (vs : List AV) : mField tDelta (.node vs) 1 = if hasTys vs [.cell, tSignature] then vs[1]? else none := rfl
def tWriter : Ty := (.struct [.cell, (.int .i64)])
theorem tWriter_x : tWriter = (.struct [.cell, (.int .i64)]) := rfl
@[simp] theorem hasTy_tWriter (vs : List AV) : hasTy (.node vs) tWriter = hasTys vs [.cell, (.int .i64)] := rfl
@[simp] theorem size_tWriter : Ty.size tWriter = 2 := by rfl
@[simp] theorem mEq_tWriter (op : BinOp) (x y : AV) : mEq tWriter op x y = if hasTy x tWriter && hasTy y tWriter then (match op with | .eql => bnd (eqv x y) fun b => some (.bool b) | .neq => bnd (eqv x y) fun b => some (.bool !b) | _ => none) else none := rfl
@[simp] theorem hasTy_row_tWriter (vs : List AV) (n : Nat) : hasTy (.node vs) (.arr n tWriter) = (decide (vs.length = n) && hasTyAll vs tWriter) := rfl
@[simp] theorem mFieldAddr_tWriter_0 (b ver : Nat) (path : List Nat) : mFieldAddr tWriter (.ptr b ver path tWriter) 0 = some (.ptr b ver (path ++ [0]) .cell) := by simp [mFieldAddr, tWriter]
@[simp] theorem mField_tWriter_0 (vs : List AV) : mField tWriter (.node vs) 0 = if hasTys vs [.cell, (.int .i64)] then vs[0]? else none := rfl
@[simp] theorem mFieldAddr_tWriter_1 (b ver : Nat) (path : List Nat) : mFieldAddr tWriter (.ptr b ver path tWriter) 1 = some (.ptr b ver (path ++ [1]) (.int .i64)) := by simp [mFieldAddr, tWriter]
@[simp] theorem mField_tWriter_1 (vs : List AV) : mField tWriter (.node vs) 1 = if hasTys vs [.cell, (.int .i64)] then vs[1]? else none := rfl
def tLwriter : Ty := (.struct [tWriter])
theorem tLwriter_x : tLwriter = (.struct [tWriter]) := rfl
@[simp] theorem hasTy_tLwriter (vs : List AV) : hasTy (.node vs) tLwriter = hasTys vs [tWriter] := rfl
@[simp] theorem size_tLwriter : Ty.size tLwriter = 2 := by rfl
@[simp] theorem mEq_tLwriter (op : BinOp) (x y : AV) : mEq tLwriter op x y = if hasTy x tLwriter && hasTy y tLwriter then (match op with | .eql => bnd (eqv x y) fun b => some (.bool b) | .neq => bnd (eqv x y) fun b => some (.bool !b) | _ => none) else none := rfl
@[simp] theorem hasTy_row_tLwriter (vs : List AV) (n : Nat) : hasTy (.node vs) (.arr n tLwriter) = (decide (vs.length = n) && hasTyAll vs tLwriter) := rfl
@[simp] theorem mFieldAddr_tLwriter_0 (b ver : Nat) (path : List Nat) : mFieldAddr tLwriter (.ptr b ver path tLwriter) 0 = some (.ptr b ver (path ++ [0]) tWriter) := by simp [mFieldAddr, tLwriter]
@[simp] theorem mField_tLwriter_0 (vs : List AV) : mField tLwriter (.node vs) 0 = if hasTys vs [tWriter] then vs[0]? else none := rfl
def tLhas : Ty := (.struct [.cell, .cell, .cell, .cell, .cell, .cell])
theorem tLhas_x : tLhas = (.struct [.cell, .cell, .cell, .cell, .cell, .cell]) := rfl
@[simp] theorem hasTy_tLhas (vs : List AV) : hasTy (.node vs) tLhas = hasTys vs [.cell, .cell, .cell, .cell, .cell, .cell] := rfl
@[simp] theorem size_tLhas : Ty.size tLhas = 6 := by rfl
@[simp] theorem mEq_tLhas (op : BinOp) (x y : AV) : mEq tLhas op x y = if hasTy x tLhas && hasTy y tLhas then (match op with | .eql => bnd (eqv x y) fun b => some (.bool b) | .neq => bnd (eqv x y) fun b => some (.bool !b) | _ => none) else none := rfl
@[simp] theorem hasTy_row_tLhas (vs : List AV) (n : Nat) : hasTy (.node vs) (.arr n tLhas) = (decide (vs.length = n) && hasTyAll vs tLhas) := rfl
@[simp] theorem mFieldAddr_tLhas_0 (b ver : Nat) (path : List Nat) : mFieldAddr tLhas (.ptr b ver path tLhas) 0 = some (.ptr b ver (path ++ [0]) .cell) := by simp [mFieldAddr, tLhas]
@[simp] theorem mField_tLhas_0 (vs : List AV) : mField tLhas (.node vs) 0 = if hasTys vs [.cell, .cell, .cell, .cell, .cell, .cell] then vs[0]? else none := rfl
@[simp] theorem mFieldAddr_tLhas_1 (b ver : Nat) (path : List Nat) : mFieldAddr tLhas (.ptr b ver path tLhas) 1 = some (.ptr b ver (path ++ [1]) .cell) := by simp [mFieldAddr, tLhas]
@[simp] theorem mField_tLhas_1 (vs : List AV) : mField tLhas (.node vs) 1 = if hasTys vs [.cell, .cell, .cell, .cell, .cell, .cell] then vs[1]? else none := rfl
@[simp] theorem mFieldAddr_tLhas_2 (b ver : Nat) (path : List Nat) : mFieldAddr tLhas (.ptr b ver path tLhas) 2 = some (.ptr b ver (path ++ [2]) .cell) := by simp [mFieldAddr, tLhas]
@[simp] theorem mField_tLhas_2 (vs : List AV) : mField tLhas (.node vs) 2 = if hasTys vs [.cell, .cell, .cell, .cell, .cell, .cell] then vs[2]? else none := rfl
@[simp] theorem mFieldAddr_tLhas_3 (b ver : Nat) (path : List Nat) : mFieldAddr tLhas (.ptr b ver path tLhas) 3 = some (.ptr b ver (path ++ [3]) .cell) := by simp [mFieldAddr, tLhas]
@[simp] theorem mField_tLhas_3 (vs : List AV) : mField tLhas (.node vs) 3 = if hasTys vs [.cell, .cell, .cell, .cell, .cell, .cell] then vs[3]? else none := rfl
@[simp] theorem mFieldAddr_tLhas_4 (b ver : Nat) (path : List Nat) : mFieldAddr tLhas (.ptr b ver path tLhas) 4 = some (.ptr b ver (path ++ [4]) .cell) := by simp [mFieldAddr, tLhas]
@[simp] theorem mField_tLhas_4 (vs : List AV) : mField tLhas (.node vs) 4 = if hasTys vs [.cell, .cell, .cell, .cell, .cell, .cell] then vs[4]? else none := rfl
@[simp] theorem mFieldAddr_tLhas_5 (b ver : Nat) (path : List Nat) : mFieldAddr tLhas (.ptr b ver path tLhas) 5 = some (.ptr b ver (path ++ [5]) .cell) := by simp [mFieldAddr, tLhas]
@[simp] theorem mField_tLhas_5 (vs : List AV) : mField tLhas (.node vs) 5 = if hasTys vs [.cell, .cell, .cell, .cell, .cell, .cell] then vs[5]? else none := rfl
def tMove : Ty := (.struct [(.arr 32 (.int .u8)), tAction])
theorem tMove_x : tMove = (.struct [(.arr 32 (.int .u8)), tAction]) := rfl
@[simp] theorem hasTy_tMove (vs : List AV) : hasTy (.node vs) tMove = hasTys vs [(.arr 32 (.int .u8)), tAction] := rfl
@[simp] theorem size_tMove : Ty.size tMove = 136 := by rfl
@[simp] theorem mEq_tMove (op : BinOp) (x y : AV) : mEq tMove op x y = if hasTy x tMove && hasTy y tMove then (match op with | .eql => bnd (eqv x y) fun b => some (.bool b) | .neq => bnd (eqv x y) fun b => some (.bool !b) | _ => none) else none := rfl
@[simp] theorem hasTy_row_tMove (vs : List AV) (n : Nat) : hasTy (.node vs) (.arr n tMove) = (decide (vs.length = n) && hasTyAll vs tMove) := rfl
@[simp] theorem mFieldAddr_tMove_0 (b ver : Nat) (path : List Nat) : mFieldAddr tMove (.ptr b ver path tMove) 0 = some (.ptr b ver (path ++ [0]) (.arr 32 (.int .u8))) := by simp [mFieldAddr, tMove]
@[simp] theorem mField_tMove_0 (vs : List AV) : mField tMove (.node vs) 0 = if hasTys vs [(.arr 32 (.int .u8)), tAction] then vs[0]? else none := rfl
@[simp] theorem mFieldAddr_tMove_1 (b ver : Nat) (path : List Nat) : mFieldAddr tMove (.ptr b ver path tMove) 1 = some (.ptr b ver (path ++ [1]) tAction) := by simp [mFieldAddr, tMove]
@[simp] theorem mField_tMove_1 (vs : List AV) : mField tMove (.node vs) 1 = if hasTys vs [(.arr 32 (.int .u8)), tAction] then vs[1]? else none := rfl
def tLstep : Ty := (.struct [.cell, (.arr 32 (.int .u8)), tAction, (.int .u8)])
theorem tLstep_x : tLstep = (.struct [.cell, (.arr 32 (.int .u8)), tAction, (.int .u8)]) := rfl
@[simp] theorem hasTy_tLstep (vs : List AV) : hasTy (.node vs) tLstep = hasTys vs [.cell, (.arr 32 (.int .u8)), tAction, (.int .u8)] := rfl
@[simp] theorem size_tLstep : Ty.size tLstep = 138 := by rfl
@[simp] theorem mEq_tLstep (op : BinOp) (x y : AV) : mEq tLstep op x y = if hasTy x tLstep && hasTy y tLstep then (match op with | .eql => bnd (eqv x y) fun b => some (.bool b) | .neq => bnd (eqv x y) fun b => some (.bool !b) | _ => none) else none := rfl
@[simp] theorem hasTy_row_tLstep (vs : List AV) (n : Nat) : hasTy (.node vs) (.arr n tLstep) = (decide (vs.length = n) && hasTyAll vs tLstep) := rfl
@[simp] theorem mFieldAddr_tLstep_0 (b ver : Nat) (path : List Nat) : mFieldAddr tLstep (.ptr b ver path tLstep) 0 = some (.ptr b ver (path ++ [0]) .cell) := by simp [mFieldAddr, tLstep]
@[simp] theorem mField_tLstep_0 (vs : List AV) : mField tLstep (.node vs) 0 = if hasTys vs [.cell, (.arr 32 (.int .u8)), tAction, (.int .u8)] then vs[0]? else none := rfl
@[simp] theorem mFieldAddr_tLstep_1 (b ver : Nat) (path : List Nat) : mFieldAddr tLstep (.ptr b ver path tLstep) 1 = some (.ptr b ver (path ++ [1]) (.arr 32 (.int .u8))) := by simp [mFieldAddr, tLstep]
@[simp] theorem mField_tLstep_1 (vs : List AV) : mField tLstep (.node vs) 1 = if hasTys vs [.cell, (.arr 32 (.int .u8)), tAction, (.int .u8)] then vs[1]? else none := rfl
@[simp] theorem mFieldAddr_tLstep_2 (b ver : Nat) (path : List Nat) : mFieldAddr tLstep (.ptr b ver path tLstep) 2 = some (.ptr b ver (path ++ [2]) tAction) := by simp [mFieldAddr, tLstep]
@[simp] theorem mField_tLstep_2 (vs : List AV) : mField tLstep (.node vs) 2 = if hasTys vs [.cell, (.arr 32 (.int .u8)), tAction, (.int .u8)] then vs[2]? else none := rfl
@[simp] theorem mFieldAddr_tLstep_3 (b ver : Nat) (path : List Nat) : mFieldAddr tLstep (.ptr b ver path tLstep) 3 = some (.ptr b ver (path ++ [3]) (.int .u8)) := by simp [mFieldAddr, tLstep]
@[simp] theorem mField_tLstep_3 (vs : List AV) : mField tLstep (.node vs) 3 = if hasTys vs [.cell, (.arr 32 (.int .u8)), tAction, (.int .u8)] then vs[3]? else none := rfl
def tRollSeat : Ty := (.struct [.cell, .cell])
theorem tRollSeat_x : tRollSeat = (.struct [.cell, .cell]) := rfl
@[simp] theorem hasTy_tRollSeat (vs : List AV) : hasTy (.node vs) tRollSeat = hasTys vs [.cell, .cell] := rfl
@[simp] theorem size_tRollSeat : Ty.size tRollSeat = 2 := by rfl
@[simp] theorem mEq_tRollSeat (op : BinOp) (x y : AV) : mEq tRollSeat op x y = if hasTy x tRollSeat && hasTy y tRollSeat then (match op with | .eql => bnd (eqv x y) fun b => some (.bool b) | .neq => bnd (eqv x y) fun b => some (.bool !b) | _ => none) else none := rfl
@[simp] theorem hasTy_row_tRollSeat (vs : List AV) (n : Nat) : hasTy (.node vs) (.arr n tRollSeat) = (decide (vs.length = n) && hasTyAll vs tRollSeat) := rfl
@[simp] theorem mFieldAddr_tRollSeat_0 (b ver : Nat) (path : List Nat) : mFieldAddr tRollSeat (.ptr b ver path tRollSeat) 0 = some (.ptr b ver (path ++ [0]) .cell) := by simp [mFieldAddr, tRollSeat]
@[simp] theorem mField_tRollSeat_0 (vs : List AV) : mField tRollSeat (.node vs) 0 = if hasTys vs [.cell, .cell] then vs[0]? else none := rfl
@[simp] theorem mFieldAddr_tRollSeat_1 (b ver : Nat) (path : List Nat) : mFieldAddr tRollSeat (.ptr b ver path tRollSeat) 1 = some (.ptr b ver (path ++ [1]) .cell) := by simp [mFieldAddr, tRollSeat]
@[simp] theorem mField_tRollSeat_1 (vs : List AV) : mField tRollSeat (.node vs) 1 = if hasTys vs [.cell, .cell] then vs[1]? else none := rfl
def tRollInvite : Ty := (.struct [.cell, .cell])
theorem tRollInvite_x : tRollInvite = (.struct [.cell, .cell]) := rfl
@[simp] theorem hasTy_tRollInvite (vs : List AV) : hasTy (.node vs) tRollInvite = hasTys vs [.cell, .cell] := rfl
@[simp] theorem size_tRollInvite : Ty.size tRollInvite = 2 := by rfl
@[simp] theorem mEq_tRollInvite (op : BinOp) (x y : AV) : mEq tRollInvite op x y = if hasTy x tRollInvite && hasTy y tRollInvite then (match op with | .eql => bnd (eqv x y) fun b => some (.bool b) | .neq => bnd (eqv x y) fun b => some (.bool !b) | _ => none) else none := rfl
@[simp] theorem hasTy_row_tRollInvite (vs : List AV) (n : Nat) : hasTy (.node vs) (.arr n tRollInvite) = (decide (vs.length = n) && hasTyAll vs tRollInvite) := rfl
@[simp] theorem mFieldAddr_tRollInvite_0 (b ver : Nat) (path : List Nat) : mFieldAddr tRollInvite (.ptr b ver path tRollInvite) 0 = some (.ptr b ver (path ++ [0]) .cell) := by simp [mFieldAddr, tRollInvite]
@[simp] theorem mField_tRollInvite_0 (vs : List AV) : mField tRollInvite (.node vs) 0 = if hasTys vs [.cell, .cell] then vs[0]? else none := rfl
@[simp] theorem mFieldAddr_tRollInvite_1 (b ver : Nat) (path : List Nat) : mFieldAddr tRollInvite (.ptr b ver path tRollInvite) 1 = some (.ptr b ver (path ++ [1]) .cell) := by simp [mFieldAddr, tRollInvite]
@[simp] theorem mField_tRollInvite_1 (vs : List AV) : mField tRollInvite (.node vs) 1 = if hasTys vs [.cell, .cell] then vs[1]? else none := rfl
def tRollAsk : Ty := (.struct [.cell, .cell])
theorem tRollAsk_x : tRollAsk = (.struct [.cell, .cell]) := rfl
@[simp] theorem hasTy_tRollAsk (vs : List AV) : hasTy (.node vs) tRollAsk = hasTys vs [.cell, .cell] := rfl
@[simp] theorem size_tRollAsk : Ty.size tRollAsk = 2 := by rfl
@[simp] theorem mEq_tRollAsk (op : BinOp) (x y : AV) : mEq tRollAsk op x y = if hasTy x tRollAsk && hasTy y tRollAsk then (match op with | .eql => bnd (eqv x y) fun b => some (.bool b) | .neq => bnd (eqv x y) fun b => some (.bool !b) | _ => none) else none := rfl
@[simp] theorem hasTy_row_tRollAsk (vs : List AV) (n : Nat) : hasTy (.node vs) (.arr n tRollAsk) = (decide (vs.length = n) && hasTyAll vs tRollAsk) := rfl
@[simp] theorem mFieldAddr_tRollAsk_0 (b ver : Nat) (path : List Nat) : mFieldAddr tRollAsk (.ptr b ver path tRollAsk) 0 = some (.ptr b ver (path ++ [0]) .cell) := by simp [mFieldAddr, tRollAsk]
@[simp] theorem mField_tRollAsk_0 (vs : List AV) : mField tRollAsk (.node vs) 0 = if hasTys vs [.cell, .cell] then vs[0]? else none := rfl
@[simp] theorem mFieldAddr_tRollAsk_1 (b ver : Nat) (path : List Nat) : mFieldAddr tRollAsk (.ptr b ver path tRollAsk) 1 = some (.ptr b ver (path ++ [1]) .cell) := by simp [mFieldAddr, tRollAsk]
@[simp] theorem mField_tRollAsk_1 (vs : List AV) : mField tRollAsk (.node vs) 1 = if hasTys vs [.cell, .cell] then vs[1]? else none := rfl
def tRollBan : Ty := (.struct [.cell, .cell])
theorem tRollBan_x : tRollBan = (.struct [.cell, .cell]) := rfl
@[simp] theorem hasTy_tRollBan (vs : List AV) : hasTy (.node vs) tRollBan = hasTys vs [.cell, .cell] := rfl
@[simp] theorem size_tRollBan : Ty.size tRollBan = 2 := by rfl
@[simp] theorem mEq_tRollBan (op : BinOp) (x y : AV) : mEq tRollBan op x y = if hasTy x tRollBan && hasTy y tRollBan then (match op with | .eql => bnd (eqv x y) fun b => some (.bool b) | .neq => bnd (eqv x y) fun b => some (.bool !b) | _ => none) else none := rfl
@[simp] theorem hasTy_row_tRollBan (vs : List AV) (n : Nat) : hasTy (.node vs) (.arr n tRollBan) = (decide (vs.length = n) && hasTyAll vs tRollBan) := rfl
@[simp] theorem mFieldAddr_tRollBan_0 (b ver : Nat) (path : List Nat) : mFieldAddr tRollBan (.ptr b ver path tRollBan) 0 = some (.ptr b ver (path ++ [0]) .cell) := by simp [mFieldAddr, tRollBan]
@[simp] theorem mField_tRollBan_0 (vs : List AV) : mField tRollBan (.node vs) 0 = if hasTys vs [.cell, .cell] then vs[0]? else none := rfl
@[simp] theorem mFieldAddr_tRollBan_1 (b ver : Nat) (path : List Nat) : mFieldAddr tRollBan (.ptr b ver path tRollBan) 1 = some (.ptr b ver (path ++ [1]) .cell) := by simp [mFieldAddr, tRollBan]
@[simp] theorem mField_tRollBan_1 (vs : List AV) : mField tRollBan (.node vs) 1 = if hasTys vs [.cell, .cell] then vs[1]? else none := rfl
end Go.Vab

/-
  A call within a statement whose order is open: tables of contracts.
-/
namespace Go.Vab
open Go
theorem still_ne (call : Calling) (k : Nat) (c : List AV → Heap → Option (AV × Heap)) {f : Nat} (args : List AV) (h : Heap) (hf : f ≠ k) : still (addC call k c) f args h = still call f args h := by
  have e : addC call k c f args = call f args := funext fun h => addC_ne call k c args h hf
  unfold still
  rw [e]
end Go.Vab

/-
  Rows of bytes and slices of them; memory of which one block is kept.
-/
namespace Go.Vab
open Go

theorem arr0 (g : Nat → BitVec 8) : arr 0 g = arr 0 fun _ => 0#8 := arr_congr fun i hi => absurd hi (by omega)
@[simp] theorem arr_join (n m : Nat) (g f : Nat → BitVec 8) : (arr n g).join (arr m f) = some (arr (n + m) fun i => if i < n then g i else f (i - n)) := by
  simp only [arr, bytes, AV.join, if_true]
  congr 2
  rw [← List.map_append]
  congr 1
  apply List.ext_getElem?
  intro i
  rw [List.getElem?_append, range_map_getD, range_map_getD, range_map_getD, List.length_map, List.length_range]
  by_cases h : i < n
  · simp [h, show i < n + m by omega]
  · by_cases h2 : i - n < m
    · simp [h, h2, show i < n + m by omega]
    · simp [h, h2, show ¬ i < n + m by omega]
@[simp] theorem arr_splice (m n off k : Nat) (f g : Nat → BitVec 8) : (arr m f).splice off k (arr n g) = if off + k ≤ m ∧ k ≤ n then some (arr m fun i => if off ≤ i ∧ i < off + k then g (i - off) else f i) else none := by
  simp only [arr, bytes, AV.splice, List.length_map, List.length_range, true_and]
  by_cases hc : off + k ≤ m ∧ k ≤ n
  · rw [if_pos hc, if_pos hc]
    congr 2
    simp only [← List.map_take, ← List.map_drop]
    rw [← List.map_append, ← List.map_append]
    congr 1
    simp only [List.map_take, List.map_drop]
    apply List.ext_getElem?
    intro i
    rw [range_map_getD, List.append_assoc, List.getElem?_append, List.getElem?_append]
    simp only [List.length_take, List.length_map, List.length_range, List.getElem?_take, List.getElem?_drop, range_map_getD]
    obtain ⟨h1, h2⟩ := hc
    rw [Nat.min_eq_left (by omega : off ≤ m), Nat.min_eq_left h2]
    by_cases a1 : i < off
    · simp [a1, show i < m by omega, show ¬ off ≤ i by omega]
    · by_cases a2 : i < off + k
      · have : i - off < k := by omega
        simp [a1, a2, this, show i < m by omega, show off ≤ i by omega, show i - off < n by omega]
      · have a3 : ¬ i - off < k := by omega
        have a4 : off + k + (i - off - k) = i := by omega
        simp [a1, a2, a3, a4, show off ≤ i by omega]
  · rw [if_neg hc, if_neg hc]

@[simp] theorem ite_and {α : Type} {a b c d : Nat} (x y : α) (h : a ≤ b ∧ c ≤ d) : (if a ≤ b ∧ c ≤ d then x else y) = x := if_pos h

theorem get_append : ∀ (p : List Nat) (v : AV) (q : List Nat), v.get (p ++ q) = bnd (v.get p) fun r => r.get q
  | [], v, q => by simp
  | j :: p, .node vs, q => by
    simp only [List.cons_append, get_node]
    cases vs[j]? with
    | none => rfl
    | some v => simp only [bnd_some]; exact get_append p v q
  | j :: p, .ints k xs, q => by
    simp only [List.cons_append, AV.get]
    cases p with
    | nil =>
      cases q with
      | nil =>
        simp only [List.nil_append]
        cases xs[j]? <;> simp
      | cons a q =>
        simp only [List.nil_append]
        cases xs[j]? <;> simp [AV.get]
    | cons a p => simp
  | j :: p, .junk, q | j :: p, .undef, q | j :: p, .bool _, q | j :: p, .int _ _, q | j :: p, .str _, q | j :: p, .nilptr, q | j :: p, .ptr .., q | j :: p, .win .., q | j :: p, .nilslice, q | j :: p, .slice .., q
  | j :: p, .nilmap, q | j :: p, .map _, q | j :: p, .nilfn, q | j :: p, .fn .., q | j :: p, .tuple _, q => by simp [AV.get]

def slOk : AV → Nat → Prop
  | .nilslice, n => n = 0
  | .slice _ ver _ t off len none, n => len = n ∧ off + len ≤ ver ∧ t = .int .u8
  | .slice _ _ _ t _ len (some c), n => len = n ∧ len ≤ c ∧ t = .int .u8
  | _, _ => False

/-- A slice of bytes, and what it holds. -/
def Byt (h : Heap) (x : AV) (n : Nat) (g : Nat → BitVec 8) : Prop := mElems (.int .u8) x h = some (arr n g) ∧ slOk x n

theorem Byt.app {h : Heap} {x : AV} {n : Nat} {g : Nat → BitVec 8} (hb : Byt h x n g) (t : Heap) : Byt (h ++ t) x n g := ⟨mElems_app hb.1 t, hb.2⟩
theorem Byt.elems {h : Heap} {x : AV} {n : Nat} {g : Nat → BitVec 8} (hb : Byt h x n g) (t : Heap) : mElems (.int .u8) x (h ++ t) = some (arr n g) := (hb.app t).1
theorem Byt.len {h : Heap} {x : AV} {n : Nat} {g : Nat → BitVec 8} (hb : Byt h x n g) : mLenS x = some (nat n) := by
  obtain ⟨_, h2⟩ := hb
  unfold slOk at h2
  split at h2
  · subst h2; rfl
  · rw [← h2.1]; rfl
  · rw [← h2.1]; rfl
  · cases h2
theorem arr_len_inj {n m : Nat} {g f : Nat → BitVec 8} (h : arr n g = arr m f) : n = m := by
  have := congrArg AV.rowLen h
  simpa using this
theorem Byt.det {h : Heap} {x : AV} {n m : Nat} {g f : Nat → BitVec 8} (hb : Byt h x n g) (hc : Byt h x m f) : n = m ∧ ∀ i, i < n → g i = f i := by
  have e : arr n g = arr m f := Option.some.inj (hb.1.symm.trans hc.1)
  have := arr_len_inj e
  subst this
  exact ⟨rfl, arr_inj.1 e⟩
theorem Byt.congr {h : Heap} {x : AV} {n : Nat} {g f : Nat → BitVec 8} (hb : Byt h x n g) (e : ∀ i, i < n → g i = f i) : Byt h x n f := ⟨by rw [hb.1, arr_congr e], hb.2⟩
theorem Byt.nil (h : Heap) (g : Nat → BitVec 8) : Byt h .nilslice 0 g := ⟨by simp [mElems, arr, bytes], rfl⟩
theorem mElems_slc {i ver : Nat} {path : List Nat} {off len : Nat} {cap : Option Nat} {h : Heap} : mElems (.int .u8) (.slice i ver path (.int .u8) off len cap) h = bnd (blkAt h i ver) fun b => bnd (b.v.get path) fun r => r.cut off len := by simp [mElems]

theorem cut_ints {r : AV} {off len n : Nat} {g : Nat → BitVec 8} (h : r.cut off len = some (arr n g)) : n = len ∧ ∀ i, i < n → r.get [off + i] = some (u8 (g i)) := by
  cases r <;> simp only [AV.cut] at h <;> try (cases h; done)
  case ints k xs =>
    split at h
    · rename_i hl
      simp only [Option.some.injEq, arr, bytes, AV.ints.injEq] at h
      obtain ⟨hk, hx⟩ := h
      have hn : n = len := by
        have := congrArg List.length hx
        simp at this; omega
      refine ⟨hn, fun i hi => ?_⟩
      have := congrArg (fun l => l[i]?) hx
      simp only [List.getElem?_take, List.getElem?_drop, List.map_map, if_pos (show i < len by omega)] at this
      simp only [AV.get, this, List.getElem?_map, List.getElem?_range hi, Option.map_some]
      rw [hk]; rfl
    · cases h
  case node vs =>
    split at h
    · simp [arr, bytes] at h
    · cases h

theorem Byt.idx {h : Heap} {x : AV} {n : Nat} {g : Nat → BitVec 8} (hb : Byt h x n g) {i : Nat} (hi : i < n) : ∃ p, mIdxS (.int .u8) x (nat i) = some p ∧ mLoad (.int .u8) p h = some (u8 (g i)) ∧ ∀ t, mLoad (.int .u8) p (h ++ t) = some (u8 (g i)) := by
  have key : ∀ b ver path off len cap, x = .slice b ver path (.int .u8) off len cap → len = n → ∃ p, mIdxS (.int .u8) x (nat i) = some p ∧ mLoad (.int .u8) p h = some (u8 (g i)) ∧ ∀ t, mLoad (.int .u8) p (h ++ t) = some (u8 (g i)) := by
    rintro b ver path off len cap rfl rfl
    obtain ⟨h1, h2⟩ := hb
    rw [mElems_slc] at h1
    obtain ⟨bb, e1, e2⟩ := bnd_eq_some.1 h1
    obtain ⟨r, e3, e4⟩ := bnd_eq_some.1 e2
    have hl : mLoad (.int .u8) (.ptr b ver (path ++ [off + i]) (.int .u8)) h = some (u8 (g i)) := by
      rw [mLoad_ptr, e1, bnd_some, get_append, e3, bnd_some]
      exact (cut_ints e4).2 i hi
    exact ⟨.ptr b ver (path ++ [off + i]) (.int .u8), by simp [mIdxS, hi], hl, fun t => mLoad_app hl t⟩
  have h2 := hb.2
  unfold slOk at h2
  split at h2
  · omega
  · obtain ⟨e1, _, e3⟩ := h2; subst e3; exact key _ _ _ _ _ _ rfl e1
  · obtain ⟨e1, _, e3⟩ := h2; subst e3; exact key _ _ _ _ _ _ rfl e1
  · cases h2

theorem Byt.sub {h : Heap} {b ver : Nat} {path : List Nat} {off len n : Nat} {cap : Option Nat} {g : Nat → BitVec 8} (hb : Byt h (.slice b ver path (.int .u8) off len cap) n g) {l k : Nat} (hk : l + k ≤ n) :
    mElems (.int .u8) (.slice b ver path (.int .u8) (off + l) k (cap.map (· - l))) h = some (arr k fun i => g (l + i)) := by
  have h1 := hb.1
  rw [mElems_slc] at h1 ⊢
  obtain ⟨bb, e1, e2⟩ := bnd_eq_some.1 h1
  obtain ⟨r, e3, e4⟩ := bnd_eq_some.1 e2
  rw [e1, bnd_some, e3, bnd_some]
  cases r <;> simp only [AV.cut] at e4 <;> try (cases e4; done)
  case ints q xs =>
    split at e4
    · rename_i hl
      have hn := (cut_ints (r := .ints q xs) (off := off) (len := len) (by simp only [AV.cut]; rw [if_pos hl]; exact e4)).1
      simp only [AV.cut]
      rw [if_pos (by omega)]
      simp only [Option.some.injEq, arr, bytes, AV.ints.injEq] at e4 ⊢
      refine ⟨e4.1, ?_⟩
      have := congrArg (fun z => (z.drop l).take k) e4.2
      simp only [List.drop_take, List.drop_drop, List.take_take] at this
      rw [show min k (len - l) = k by omega] at this
      rw [this]
      apply List.ext_getElem?
      intro i
      simp only [List.getElem?_take, List.getElem?_drop, List.getElem?_map]
      by_cases hi : i < k
      · rw [if_pos hi, List.getElem?_range hi, List.getElem?_range (by omega)]; rfl
      · rw [if_neg hi, List.getElem?_eq_none (l := List.range k) (by simpa using hi)]; rfl
    · cases e4
  case node vs =>
    split at e4
    · simp [arr, bytes] at e4
    · cases e4

theorem Byt.from {h : Heap} {x : AV} {n : Nat} {g : Nat → BitVec 8} (hb : Byt h x n g) {l : Nat} (hl : l ≤ n) : ∃ y, mSliceS (.int .u8) x (some (nat l)) none none = some y ∧ Byt h y (n - l) fun i => g (l + i) := by
  have h2 := hb.2
  unfold slOk at h2
  split at h2
  · subst h2
    have : l = 0 := by omega
    subst this
    exact ⟨.nilslice, by simp [mSliceS, optBound, mBound], Byt.nil _ _⟩
  · obtain ⟨e1, e2, e3⟩ := h2; subst e3; subst e1
    rename_i i ver p off len
    refine ⟨.slice i ver p (.int .u8) (off + l) (len - l) none, ?_, ⟨hb.sub (by omega), by show _ ∧ _ ∧ _; exact ⟨rfl, by omega, rfl⟩⟩⟩
    simp [mSliceS, optBound, mBound, hl]
  · obtain ⟨e1, e2, e3⟩ := h2; subst e3; subst e1
    rename_i i ver p off len c
    refine ⟨.slice i ver p (.int .u8) (off + l) (len - l) (some (c - l)), ?_, ⟨hb.sub (by omega), by show _ ∧ _ ∧ _; exact ⟨rfl, by omega, rfl⟩⟩⟩
    simp [mSliceS, optBound, mBound, hl]
  · cases h2

theorem Byt.upto {h : Heap} {x : AV} {n : Nat} {g : Nat → BitVec 8} (hb : Byt h x n g) {l : Nat} (hl : l ≤ n) : ∃ y, mSliceS (.int .u8) x none (some (nat l)) none = some y ∧ Byt h y l g := by
  have h2 := hb.2
  unfold slOk at h2
  split at h2
  · subst h2
    have : l = 0 := by omega
    subst this
    exact ⟨.nilslice, by simp [mSliceS, optBound, mBound], Byt.nil _ _⟩
  · obtain ⟨e1, e2, e3⟩ := h2; subst e3; subst e1
    rename_i i ver p off len
    refine ⟨.slice i ver p (.int .u8) off l none, ?_, ⟨by simpa using hb.sub (l := 0) (k := l) (by omega), by show _ ∧ _ ∧ _; exact ⟨rfl, by omega, rfl⟩⟩⟩
    simp [mSliceS, optBound, mBound, show l ≤ ver - off by omega]
  · obtain ⟨e1, e2, e3⟩ := h2; subst e3; subst e1
    rename_i i ver p off len c
    refine ⟨.slice i ver p (.int .u8) off l (some c), ?_, ⟨by simpa using hb.sub (l := 0) (k := l) (by omega), by show _ ∧ _ ∧ _; exact ⟨rfl, by omega, rfl⟩⟩⟩
    simp [mSliceS, optBound, mBound, show l ≤ c by omega]
  · cases h2

/-- A slice of an array of one's own. -/
@[simp] theorem mSliceA_all (n : Nat) (u : Ty) (b ver : Nat) (path : List Nat) : mSliceA (.arr n u) (.ptr b ver path (.arr n u)) none none none = some (.slice b ver path u 0 n (some n)) := by simp [mSliceA, optBound]
@[simp] theorem mSliceA_from (n : Nat) (u : Ty) (b ver : Nat) (path : List Nat) (l : Nat) : mSliceA (.arr n u) (.ptr b ver path (.arr n u)) (some (nat l)) none none = if l ≤ n then some (.slice b ver path u l (n - l) (some (n - l))) else none := by
  by_cases h : l ≤ n <;> simp [mSliceA, optBound, mBound, h]
@[simp] theorem mSliceA_upto (n : Nat) (u : Ty) (b ver : Nat) (path : List Nat) (k : Nat) : mSliceA (.arr n u) (.ptr b ver path (.arr n u)) none (some (nat k)) none = if k ≤ n then some (.slice b ver path u 0 k (some n)) else none := by
  by_cases h : k ≤ n <;> simp [mSliceA, optBound, mBound, h]

theorem mCopy_own {h : Heap} {x : AV} {n m : Nat} {g f : Nat → BitVec 8} {i ver off len : Nat} {cap : Option Nat} {b : Blk} (hx : mElems (.int .u8) x h = some (arr n g)) (hb : blkAt h i ver = some b) (hv : b.v = arr m f) (hm : b.mode ≠ .ro) (hl : off + len ≤ m) :
    mCopy (.int .u8) (.slice i ver [] (.int .u8) off len cap) x h = some (nat (min n len), h.set i { b with v := arr m fun j => if off ≤ j ∧ j < off + min n len then g (j - off) else f j }) := by
  simp only [mCopy, hx, bnd_some, arr_rowLen, Ty.beq_self, if_true, hb, if_neg hm, hv, get_nil, arr_splice, put_nil]
  rw [if_pos ⟨by omega, by omega⟩]
  rfl

/-- Bytes as a string. -/
def strOf (n : Nat) (g : Nat → BitVec 8) : ByteArray := ⟨((List.range n).map fun i => UInt8.ofNat (g i).toNat).toArray⟩
theorem strOf_congr {n : Nat} {g f : Nat → BitVec 8} (h : ∀ i, i < n → g i = f i) : strOf n g = strOf n f := by
  unfold strOf
  congr 2
  exact List.map_congr_left fun i hi => by rw [h i (List.mem_range.1 hi)]
theorem Byt.str {h : Heap} {x : AV} {n : Nat} {g : Nat → BitVec 8} (hb : Byt h x n g) : mStr x h = some (.str (strOf n g)) := by
  have key : ∀ y : AV, (∀ s, y ≠ .str s) → mElems (.int .u8) y h = some (arr n g) → mStr y h = some (.str (strOf n g)) := by
    intro y hy he
    unfold mStr
    split
    · exact absurd rfl (hy _)
    · rw [he]
      simp only [bnd_some, arr, bytes, strOf, List.map_map]
      congr 5
  refine key x ?_ hb.1
  intro s e
  have h2 := hb.2
  rw [e] at h2
  exact h2
theorem Byt.strT {h : Heap} {x : AV} {n : Nat} {g : Nat → BitVec 8} (hb : Byt h x n g) (t : Heap) : mStr x (h ++ t) = some (.str (strOf n g)) := (hb.app t).str
theorem strOf_inj {n m : Nat} {g f : Nat → BitVec 8} (h : strOf n g = strOf m f) : n = m ∧ ∀ i, i < n → g i = f i := by
  unfold strOf at h
  have h1 : (List.range n).map (fun i => UInt8.ofNat (g i).toNat) = (List.range m).map fun i => UInt8.ofNat (f i).toNat := by
    have := congrArg ByteArray.data h
    simpa using this
  have hn : n = m := by simpa using congrArg List.length h1
  subst hn
  refine ⟨rfl, fun i hi => ?_⟩
  have := congrArg (fun l => l[i]?) h1
  rw [range_map_getD, range_map_getD, if_pos hi, if_pos hi, Option.some.injEq] at this
  have h3 := congrArg UInt8.toNat this
  have q : ∀ x : BitVec 8, (UInt8.ofNat x.toNat).toNat = x.toNat := fun x => by simp
  rw [q, q] at h3
  exact BitVec.eq_of_toNat_eq h3

/-! Memory of which one block is kept. -/
def Gh.pull (E : Gh) (n j : Nat) : Gh where
  n := n + 1
  blk i := if i = n then E.blk j else E.blk i
  base i := if i = n then E.base j else E.base i
  room i := if i = n then E.room j else E.room i
  ver i := if i = n then E.ver j else E.ver i
  many i := if i = n then E.many j else E.many i
  ty i := if i = n then E.ty j else E.ty i

theorem Gh.pull_ext (E : Gh) (n j : Nat) : Ext (E.cut n) (E.pull n j) := by
  have ne : ∀ i, i < n → i ≠ n := fun i hi => by omega
  refine ⟨Nat.le_succ _, fun i hi => ?_, fun i hi => ?_, fun i hi => ?_, fun i hi _ => ?_⟩
  · simp only [Gh.pull, if_neg (ne i hi)]; exact Nat.le_refl _
  · simp only [Gh.pull, if_neg (ne i hi)]; rfl
  · simp only [Gh.pull, if_neg (ne i hi)]; rfl
  · simp only [Gh.pull, if_neg (ne i hi)]; exact ⟨rfl, rfl, rfl⟩

theorem Moves.pull {E E' : Gh} {h t : Heap} {w w' : World} {j : Nat} {b : Blk} (R : RelHeap E h w) (m : Moves E h w E' (h ++ t) w') (hj : t[j]? = some b) (hb : ∃ k xs, b.v = .ints k xs) :
    Moves E h w (E'.pull h.length (h.length + j)) (h ++ [b]) w' := by
  have get : ∀ i c, h[i]? = some c → (h ++ t)[i]? = some c := fun i c hi => by
    rw [List.getElem?_append_left (List.getElem?_eq_some_iff.1 hi).1]; exact hi
  have getb : (h ++ t)[h.length + j]? = some b := by rw [List.getElem?_append_right (by omega)]; simpa using hj
  have spl : ∀ i c, (h ++ [b])[i]? = some c → (i < h.length ∧ h[i]? = some c) ∨ (i = h.length ∧ c = b) := by
    intro i c hi
    rw [List.getElem?_append] at hi
    split at hi
    · exact .inl ⟨by assumption, hi⟩
    · right
      have hl := (List.getElem?_eq_some_iff.1 hi).1
      simp at hl
      have : i = h.length := by omega
      subst this
      simp at hi
      exact ⟨rfl, hi.symm⟩
  have src : ∀ i c, (h ++ [b])[i]? = some c → ∃ i', (h ++ t)[i']? = some c ∧ (E'.pull h.length (h.length + j)).blk i = E'.blk i' ∧ (E'.pull h.length (h.length + j)).room i = E'.room i' ∧ ((i < h.length ∧ i' = i) ∨ (i = h.length ∧ i' = h.length + j)) := by
    intro i c hi
    rcases spl i c hi with ⟨h1, h2⟩ | ⟨h1, h2⟩
    · exact ⟨i, get i c h2, by simp [Gh.pull, show i ≠ h.length by omega], by simp [Gh.pull, show i ≠ h.length by omega], .inl ⟨h1, rfl⟩⟩
    · subst h1; subst h2
      exact ⟨h.length + j, getb, by simp [Gh.pull], by simp [Gh.pull], .inr ⟨rfl, rfl⟩⟩
  refine ⟨⟨?_, fun i hi => ?_, fun i hi => ?_, fun i hi => ?_, fun i hi he => ?_⟩, ⟨?_, fun i c hi => ?_, fun i k c d hi hk hp ho he => ?_⟩, m.size, m.keep, fun x hx => ?_, m.io⟩
  · show E.n ≤ h.length + 1; rw [R.n]; omega
  · rw [R.n] at hi; simp only [Gh.pull, if_neg (show i ≠ h.length by omega)]; exact m.ext.ver i (by rw [R.n]; exact hi)
  · rw [R.n] at hi; simp only [Gh.pull, if_neg (show i ≠ h.length by omega)]; exact m.ext.many i (by rw [R.n]; exact hi)
  · rw [R.n] at hi; simp only [Gh.pull, if_neg (show i ≠ h.length by omega)]; exact m.ext.ty i (by rw [R.n]; exact hi)
  · have hi' := hi
    rw [R.n] at hi
    simp only [Gh.pull, if_neg (show i ≠ h.length by omega)] at he ⊢
    exact m.ext.same i hi' he
  · simp [Gh.pull]
  · rcases spl i c hi with ⟨h1, h2⟩ | ⟨h1, h2⟩
    · have ne : i ≠ h.length := by omega
      have q := m.rel.at_ i c (get i c h2)
      obtain ⟨l, b1, b2, b3⟩ := q.body
      have hu : c.v.under h.length = true := by
        obtain ⟨l', g1, _⟩ := (R.at_ i c h2).body
        have := VRl.under _ _ g1
        rw [R.n] at this; exact this
      refine ⟨by simp only [Gh.pull, if_neg ne]; exact q.ver, ?_, ⟨l, VRl.mono (Gh.pull_ext _ _ _) _ _ (VRl.cut _ _ hu b1), ?_, ?_⟩, ?_⟩
      · have := q.fits; unfold Fits at this ⊢; simp only [Gh.pull, if_neg ne]; exact this
      · have := b2; unfold Placed at this ⊢; simp only [Gh.pull, if_neg ne]; exact this
      · have := b3; unfold Placed at this ⊢; simp only [Gh.pull, if_neg ne]; exact this
      · simp only [Gh.pull, if_neg ne]; exact q.grow
    · subst h1; subst h2
      have q := m.rel.at_ _ _ getb
      obtain ⟨l, b1, b2, b3⟩ := q.body
      obtain ⟨k, xs, hv⟩ := hb
      refine ⟨by simp only [Gh.pull, if_true]; exact q.ver, ?_, ⟨l, ?_, ?_, ?_⟩, ?_⟩
      · have := q.fits; unfold Fits at this ⊢; simp only [Gh.pull, if_true]; exact this
      · rw [hv] at b1 ⊢; simpa only [VRl] using b1
      · have := b2; unfold Placed at this ⊢; simp only [Gh.pull, if_true]; exact this
      · have := b3; unfold Placed at this ⊢; simp only [Gh.pull, if_true]; exact this
      · simp only [Gh.pull, if_true]; exact q.grow
  · obtain ⟨i', a1, a2, a3, a4⟩ := src i c hi
    obtain ⟨k', c1, c2, c3, c4⟩ := src k d hk
    have hp' : Placed E' i' c := by unfold Placed at hp ⊢; rw [← a3]; exact hp
    have ho' : Own E' k' d := ⟨ho.1, by have := ho.2; unfold Placed at this ⊢; rw [← c3]; exact this⟩
    have := m.rel.inj i' k' c d a1 c1 hp' ho' (by rw [← a2, ← c2]; exact he)
    rcases a4 with ⟨a5, a6⟩ | ⟨a5, a6⟩ <;> rcases c4 with ⟨c5, c6⟩ | ⟨c5, c6⟩ <;> omega
  · obtain ⟨i, c, hi, ho, he⟩ := hx
    obtain ⟨i', a1, a2, a3, a4⟩ := src i c hi
    exact m.img x ⟨i', c, a1, ⟨ho.1, by have := ho.2; unfold Placed at this ⊢; rw [← a3]; exact this⟩, by rw [← a2]; exact he⟩

theorem SlcAt.pull {E : Gh} {n j ver : Nat} {path : List Nat} {t : Ty} {off len : Nat} {cap : Option Nat} {a : Addr} {c : Nat} (h : SlcAt E j ver path t off len cap a c) : SlcAt (E.pull n j) n ver path t off len cap a c := by
  obtain ⟨_, h2, h3, h4, h5, h6⟩ := h
  refine ⟨Nat.lt_succ_self _, by simp only [Gh.pull, if_true]; exact h2, h3, h4, h5, fun hv => ?_⟩
  simp only [Gh.pull, if_true] at hv ⊢
  exact h6 hv

section
variable {P : Program} {f : Nat} {args : List AV} {h : Heap} {ver : Nat} {path : List Nat} {ty : Ty} {off len : Nat} {cap : Option Nat}
theorem Spec.pull (t : Heap) (j : Nat) (b : Blk) (hs : Spec P f args h (.slice (h.length + j) ver path ty off len cap) (h ++ t)) (hj : t[j]? = some b) (hb : ∃ k xs, b.v = .ints k xs) :
    Spec P f args h (.slice h.length ver path ty off len cap) (h ++ [b]) := by
  intro E w xs R hxs
  refine (hs E w xs R hxs).mono fun e w' hp => ?_
  obtain ⟨E', x, rfl, h1, h2⟩ := hp
  refine ⟨E'.pull h.length (h.length + j), x, rfl, ?_, h2.pull R hj hb⟩
  simp only [VRel] at h1 ⊢
  obtain ⟨a, c, e, hp⟩ := h1
  exact ⟨a, c, e, hp.pull⟩
theorem Spec.pullT (t : Heap) (j : Nat) (b : Blk) {k : IntKind} {n : Int} (hs : Spec P f args h (.tuple [.slice (h.length + j) ver path ty off len cap, .int k n]) (h ++ t)) (hj : t[j]? = some b) (hb : ∃ k xs, b.v = .ints k xs) :
    Spec P f args h (.tuple [.slice h.length ver path ty off len cap, .int k n]) (h ++ [b]) := by
  intro E w xs R hxs
  refine (hs E w xs R hxs).mono fun e w' hp => ?_
  obtain ⟨E', x, rfl, h1, h2⟩ := hp
  refine ⟨E'.pull h.length (h.length + j), x, rfl, ?_, h2.pull R hj hb⟩
  simp only [VRel, VRc] at h1 ⊢
  obtain ⟨ys, e, y1, ys1, e1, ⟨a, c, e2, hp⟩, y2, ys2, e3, e4, e5⟩ := h1
  exact ⟨ys, e, y1, ys1, e1, ⟨a, c, e2, hp.pull⟩, y2, ys2, e3, e4, e5⟩
end

/-- A contract whose arguments say what lies in memory. -/
theorem conC_eqP {α : Type} {enc : α → List AV} {P : α → Heap → Prop} {f : α → Heap → AV × Heap} (inj : ∀ a b h, P a h → P b h → enc a = enc b → f a h = f b h) {a : α} {h : Heap} (hp : P a h) : conC enc P f (enc a) h = some (f a h) := by
  have hx : ∃ b, enc b = enc a ∧ P b h := ⟨a, rfl, hp⟩
  unfold conC
  rw [dif_pos hx]
  congr 1
  exact inj _ _ h hx.choose_spec.2 hp hx.choose_spec.1

end Go.Vab

/-
  The data of the layers, and how they lie in memory.
-/
namespace Go.Vab
open Go

@[simp] theorem eqv_u8 (x y : BitVec 8) : eqv (u8 x) (u8 y) = some (decide (x = y)) := by
  simp only [eqv, u8, if_true]
  congr 1
  by_cases h : x = y
  · subst h; simp
  · have : ¬ ((x.toNat : Int) = (y.toNat : Int)) := fun e => h (BitVec.eq_of_toNat_eq (by omega))
    simp [h, this]

/-- Bytes. -/
abbrev Bs := List (BitVec 8)
def Bs.g (l : Bs) (i : Nat) : BitVec 8 := l.getD i 0#8

/-- A handle: 32 bytes. -/
structure Pt where
  l : Bs
  h : l.length = 32
  deriving DecidableEq
def Pt.g (p : Pt) : Nat → BitVec 8 := Bs.g p.l
def pt (p : Pt) : AV := arr 32 p.g

theorem bs_ext {a b : Bs} (hl : a.length = b.length) (h : ∀ i, i < a.length → a.g i = b.g i) : a = b := by
  apply List.ext_getElem? 
  intro i
  by_cases hi : i < a.length
  · have := h i hi
    unfold Bs.g at this
    rw [List.getD_eq_getElem?_getD, List.getD_eq_getElem?_getD, List.getElem?_eq_getElem hi, List.getElem?_eq_getElem (by omega)] at this
    rw [List.getElem?_eq_getElem hi, List.getElem?_eq_getElem (by omega)]
    simpa using this
  · rw [List.getElem?_eq_none (by omega), List.getElem?_eq_none (by omega)]
theorem Pt.ext' {p q : Pt} (h : p.l = q.l) : p = q := by cases p; cases q; simp at h; subst h; rfl
theorem Pt.eq_iff {p q : Pt} : p = q ↔ ∀ i, i < 32 → p.g i = q.g i := by
  constructor
  · rintro rfl _ _; rfl
  · intro h
    exact Pt.ext' (bs_ext (by rw [p.h, q.h]) fun i hi => h i (by rw [p.h] at hi; exact hi))
@[simp] theorem arrEq_pt (p q : Pt) : arrEq 32 p.g q.g = decide (p = q) := by
  rw [Bool.eq_iff_iff, arrEq_iff, decide_eq_true_eq, Pt.eq_iff]
def Pt.of (f : Nat → BitVec 8) : Pt := ⟨(List.range 32).map f, by simp⟩
@[simp] theorem Pt.of_g (f : Nat → BitVec 8) {i : Nat} (h : i < 32) : (Pt.of f).g i = f i := by
  simp [Pt.of, Pt.g, Bs.g, List.getD_eq_getElem?_getD, h]
theorem arr_pt (f : Nat → BitVec 8) : arr 32 f = pt (Pt.of f) := arr_congr fun i hi => (Pt.of_g f hi).symm
@[simp] theorem Pt.of_self (p : Pt) : Pt.of p.g = p := Pt.eq_iff.2 fun i hi => Pt.of_g _ hi
@[simp] theorem hasTy_pt (p : Pt) (k : Nat) : hasTy (pt p) (.arr k (.int .u8)) = decide (32 = k) := hasTy_arr _ _ _
@[simp] theorem mEq_pt (p q : Pt) : mEq (.arr 32 (.int .u8)) .eql (pt p) (pt q) = some (.bool (decide (p = q))) := by
  unfold pt; rw [mEq_arr, arrEq_pt]
@[simp] theorem mNe_pt (p q : Pt) : mEq (.arr 32 (.int .u8)) .neq (pt p) (pt q) = some (.bool (!decide (p = q))) := by
  unfold pt; rw [mNe_arr, arrEq_pt]
@[simp] theorem eqv_pt (p q : Pt) : eqv (pt p) (pt q) = some (decide (p = q)) := by
  unfold pt; rw [eqv_arr2, arrEq_pt]
theorem pt_inj {p q : Pt} : pt p = pt q ↔ p = q := by
  unfold pt; rw [arr_inj, Pt.eq_iff]
@[simp] theorem pt_ne_int (p : Pt) (k : IntKind) (n : Int) : pt p ≠ .int k n := by simp [pt, arr, bytes]
def pt0 : Pt := Pt.of fun _ => 0#8
@[simp] theorem arr_zero : arr 32 (fun _ => 0#8) = pt pt0 := arr_pt _

structure Ci where
  e : Pt
  f : Pt
  deriving DecidableEq
structure Seat where
  who : Ci
  role : BitVec 8
  joined : BitVec 32
  deriving DecidableEq
structure Inv where
  who : Ci
  role : BitVec 8
  by_ : Ci
  deriving DecidableEq
structure Ask where
  who : Ci
  at_ : BitVec 32
  deriving DecidableEq
structure Ban where
  who : Ci
  by_ : Ci
  deriving DecidableEq
structure Acc where
  title : BitVec 8
  members : BitVec 8
  link : BitVec 8
  deriving DecidableEq
structure Stt where
  version : BitVec 32
  key : Ci
  title : Bs
  acc : Acc
  pass : Bs
  seats : List Seat
  invites : List Inv
  asks : List Ask
  bans : List Ban
  deriving DecidableEq
structure Actn where
  version : BitVec 32
  kind : BitVec 8
  who : Ci
  e : Pt
  role : BitVec 8
  title : Bs
  acc : Acc
  pass : Bs
  deriving DecidableEq

def ci0 : Ci := ⟨pt0, pt0⟩
def acc0 : Acc := ⟨0#8, 0#8, 0#8⟩
def eCi (c : Ci) : AV := .node [pt c.e, pt c.f]
def eSeat (s : Seat) : AV := .node [eCi s.who, u8 s.role, u32 s.joined]
def eInv (s : Inv) : AV := .node [eCi s.who, u8 s.role, eCi s.by_]
def eAsk (s : Ask) : AV := .node [eCi s.who, u32 s.at_]
def eBan (s : Ban) : AV := .node [eCi s.who, eCi s.by_]
def eAcc (a : Acc) : AV := .node [u8 a.title, u8 a.members, u8 a.link]

section
variable (c d : Ci) (s s' : Seat) (i i' : Inv) (q q' : Ask) (b b' : Ban) (a a' : Acc) (p p' r r' : Pt)
@[simp] theorem hasTy_eCi : hasTy (eCi c) tCipher = true := by simp [eCi, hasTys]
@[simp] theorem hasTy_eSeat : hasTy (eSeat s) tSeat = true := by simp [eSeat, hasTys]
@[simp] theorem hasTy_eInv : hasTy (eInv i) tInvite = true := by simp [eInv, hasTys]
@[simp] theorem hasTy_eAsk : hasTy (eAsk q) tAsk = true := by simp [eAsk, hasTys]
@[simp] theorem hasTy_eBan : hasTy (eBan b) tBan = true := by simp [eBan, hasTys]
@[simp] theorem hasTy_eAcc : hasTy (eAcc a) tAccess = true := by simp [eAcc, hasTys]
@[simp] theorem hasTy_ePub : hasTy (eCi c) tPublic = true := by simp [eCi, hasTys]

theorem and_dec {A B : Prop} [Decidable A] [Decidable B] : (decide A && decide B) = decide (A ∧ B) := by simp
theorem dec_iff {A B : Prop} [Decidable A] [Decidable B] (h : A ↔ B) : decide A = decide B := by simp [h]
@[simp] theorem eqv_eCi : eqv (eCi c) (eCi d) = some (decide (c = d)) := by
  simp only [eCi, eqv, eqvs, eqv_pt, Bool.and_true, and_dec]
  congr 1
  apply dec_iff
  cases c; cases d; simp
@[simp] theorem eqv_eSeat : eqv (eSeat s) (eSeat s') = some (decide (s = s')) := by
  simp only [eSeat, eqv, eqvs, eqv_eCi, eqv_u8, eqv_u32, Bool.and_true, and_dec]
  congr 1; apply dec_iff
  cases s; cases s'; simp
@[simp] theorem eqv_eInv : eqv (eInv i) (eInv i') = some (decide (i = i')) := by
  simp only [eInv, eqv, eqvs, eqv_eCi, eqv_u8, Bool.and_true, and_dec]
  congr 1; apply dec_iff
  cases i; cases i'; simp
@[simp] theorem eqv_eAsk : eqv (eAsk q) (eAsk q') = some (decide (q = q')) := by
  simp only [eAsk, eqv, eqvs, eqv_eCi, eqv_u32, Bool.and_true, and_dec]
  congr 1; apply dec_iff
  cases q; cases q'; simp
@[simp] theorem eqv_eBan : eqv (eBan b) (eBan b') = some (decide (b = b')) := by
  simp only [eBan, eqv, eqvs, eqv_eCi, Bool.and_true, and_dec]
  congr 1; apply dec_iff
  cases b; cases b'; simp
@[simp] theorem eqv_eAcc : eqv (eAcc a) (eAcc a') = some (decide (a = a')) := by
  simp only [eAcc, eqv, eqvs, eqv_u8, Bool.and_true, and_dec]
  congr 1; apply dec_iff
  cases a; cases a'; simp
end

/-! a slice of bytes -/
def BytL (h : Heap) (x : AV) (l : Bs) : Prop := Byt h x l.length (Bs.g l) ∧ l.length ≤ 140737488355328
theorem strOf_list (l : Bs) (m : Bs) : strOf l.length (Bs.g l) = strOf m.length (Bs.g m) ↔ l = m := by
  constructor
  · intro h
    obtain ⟨h1, h2⟩ := strOf_inj h
    exact bs_ext h1 h2
  · rintro rfl; rfl
def strL (l : Bs) : ByteArray := strOf l.length (Bs.g l)
theorem strL_inj {l m : Bs} : strL l = strL m ↔ l = m := strOf_list l m
theorem BytL.str {h : Heap} {x : AV} {l : Bs} (hb : BytL h x l) : mStr x h = some (.str (strL l)) := Byt.str hb.1
theorem BytL.len {h : Heap} {x : AV} {l : Bs} (hb : BytL h x l) : mLenS x = some (nat l.length) := Byt.len hb.1
theorem BytL.app {h : Heap} {x : AV} {l : Bs} (hb : BytL h x l) (t : Heap) : BytL (h ++ t) x l := ⟨Byt.app hb.1 t, hb.2⟩
theorem BytL.bound {h : Heap} {x : AV} {l : Bs} (hb : BytL h x l) : l.length ≤ 140737488355328 := hb.2
theorem BytL.nil (h : Heap) : BytL h .nilslice [] := ⟨Byt.nil h _, by simp⟩
theorem BytL.of {h : Heap} {x : AV} {n : Nat} {g : Nat → BitVec 8} (hb : Byt h x n g) (hn : n ≤ 140737488355328) : BytL h x ((List.range n).map g) := by
  unfold BytL
  rw [List.length_map, List.length_range]
  exact ⟨hb.congr fun i hi => by simp [Bs.g, List.getD_eq_getElem?_getD, hi], hn⟩
@[simp] theorem mBinT_eqL (l m : Bs) : mBinT .eql (.str (strL l)) (.str (strL m)) = some (.bool (decide (l = m))) := by
  simp only [mBinT]; congr 2; exact dec_iff strL_inj
@[simp] theorem mBinT_neL (l m : Bs) : mBinT .neq (.str (strL l)) (.str (strL m)) = some (.bool (!decide (l = m))) := by
  simp only [mBinT]; congr 3; exact dec_iff strL_inj
theorem BytL.cell {h : Heap} {x : AV} {l : Bs} (hb : BytL h x l) : hasTy x .cell = true := by
  have h2 := hb.1.2
  unfold slOk at h2
  split at h2
  · rfl
  · rfl
  · rfl
  · cases h2

/-! a slice of elements of one type -/
def rowOk (t : Ty) : AV → Nat → Prop
  | .nilslice, n => n = 0
  | .slice _ _ _ t' _ len (some c), n => len = n ∧ len ≤ c ∧ t' = t
  | _, _ => False
def Row (t : Ty) (h : Heap) (x : AV) (vs : List AV) : Prop := mElems t x h = some (.node vs) ∧ rowOk t x vs.length ∧ vs.length ≤ 140737488355328

section
variable {t : Ty} {h : Heap} {x : AV} {vs : List AV}
theorem Row.len (hr : Row t h x vs) : mLenS x = some (nat vs.length) := by
  have h2 := hr.2.1
  unfold rowOk at h2
  split at h2
  · rw [h2]; rfl
  · rw [← h2.1]; rfl
  · cases h2
theorem Row.app (hr : Row t h x vs) (l : Heap) : Row t (h ++ l) x vs := ⟨mElems_app hr.1 l, hr.2⟩
theorem Row.cell (hr : Row t h x vs) : hasTy x .cell = true := by
  have h2 := hr.2.1
  unfold rowOk at h2
  split at h2
  · rfl
  · rfl
  · cases h2
theorem Row.bound (hr : Row t h x vs) : vs.length ≤ 140737488355328 := hr.2.2
theorem mElems_row {i ver : Nat} {path : List Nat} {off len : Nat} {cap : Option Nat} : mElems t (.slice i ver path t off len cap) h = bnd (blkAt h i ver) fun b => bnd (b.v.get path) fun r => r.cut off len := by simp [mElems]
theorem cut_node {r : AV} {off len : Nat} (hc : r.cut off len = some (.node vs)) : vs.length = len ∧ ∀ i, i < len → r.get [off + i] = vs[i]? := by
  cases r <;> simp only [AV.cut] at hc <;> try (cases hc; done)
  case ints k xs => split at hc <;> cases hc
  case node us =>
    split at hc
    · rename_i hl
      simp only [Option.some.injEq, AV.node.injEq] at hc
      subst hc
      refine ⟨by simp; omega, fun i hi => ?_⟩
      simp only [get_node, List.getElem?_take, List.getElem?_drop, if_pos hi]
      cases us[off + i]? <;> simp
    · cases hc
theorem Row.slc (hr : Row t h x vs) (h0 : vs ≠ []) : ∃ b ver path off c, x = .slice b ver path t off vs.length (some c) ∧ vs.length ≤ c := by
  have h2 := hr.2.1
  cases x with
  | nilslice => exact absurd (List.eq_nil_of_length_eq_zero h2) h0
  | slice b ver path t' off len cap =>
    cases cap with
    | none => exact h2.elim
    | some c =>
      obtain ⟨e1, e2, e3⟩ := h2
      subst e3; subst e1
      exact ⟨b, ver, path, off, c, rfl, e2⟩
  | _ => exact h2.elim
theorem Row.idx (hr : Row t h x vs) {i : Nat} (hi : i < vs.length) : ∃ p, mIdxS t x (nat i) = some p ∧ ∀ l, mLoad t p (h ++ l) = vs[i]? := by
  obtain ⟨b, ver, path, off, c, rfl, hc⟩ := hr.slc (by rintro rfl; simp at hi)
  have h1 := hr.1
  rw [mElems_row] at h1
  obtain ⟨bb, g1, g2⟩ := bnd_eq_some.1 h1
  obtain ⟨r, g3, g4⟩ := bnd_eq_some.1 g2
  refine ⟨.ptr b ver (path ++ [off + i]) t, by simp [mIdxS, hi], fun l => ?_⟩
  rw [mLoad_ptr, blkAt_app g1, bnd_some, get_append, g3, bnd_some]
  exact (cut_node g4).2 i hi
theorem Row.idx0 (hr : Row t h x vs) {i : Nat} (hi : i < vs.length) : ∃ p, mIdxS t x (nat i) = some p ∧ mLoad t p h = vs[i]? := by
  obtain ⟨p, h1, h2⟩ := hr.idx hi
  exact ⟨p, h1, by simpa using h2 []⟩
end

/-! states and actions -/
def eStH (v : BitVec 32) (k : Ci) (c : Acc) (vt vp vs vi va vb : AV) : AV := .node [u32 v, eCi k, vt, eAcc c, vp, vs, vi, va, vb]
abbrev eSt (s : Stt) : AV → AV → AV → AV → AV → AV → AV := eStH s.version s.key s.acc
structure StR (h : Heap) (s : Stt) (vt vp vs vi va vb : AV) : Prop where
  ft : BytL h vt s.title
  fp : BytL h vp s.pass
  fs : Row tSeat h vs (s.seats.map eSeat)
  fi : Row tInvite h vi (s.invites.map eInv)
  fa : Row tAsk h va (s.asks.map eAsk)
  fb : Row tBan h vb (s.bans.map eBan)
def St? (h : Heap) (v : AV) (s : Stt) : Prop := ∃ vt vp vs vi va vb, v = eSt s vt vp vs vi va vb ∧ StR h s vt vp vs vi va vb

theorem StR.app {h : Heap} {s : Stt} {vt vp vs vi va vb : AV} (r : StR h s vt vp vs vi va vb) (l : Heap) : StR (h ++ l) s vt vp vs vi va vb :=
  ⟨r.ft.app l, r.fp.app l, r.fs.app l, r.fi.app l, r.fa.app l, r.fb.app l⟩

def eActH (v : BitVec 32) (k : BitVec 8) (w : Ci) (e : Pt) (r : BitVec 8) (c : Acc) (vt vp : AV) : AV := .node [u32 v, u8 k, eCi w, pt e, u8 r, vt, eAcc c, vp]
abbrev eAct (a : Actn) : AV → AV → AV := eActH a.version a.kind a.who a.e a.role a.acc
structure ActR (h : Heap) (a : Actn) (vt vp : AV) : Prop where
  t : BytL h vt a.title
  p : BytL h vp a.pass
theorem ActR.app {h : Heap} {a : Actn} {vt vp : AV} (r : ActR h a vt vp) (l : Heap) : ActR (h ++ l) a vt vp := ⟨r.t.app l, r.p.app l⟩

@[simp] theorem hasTy_nilslice : hasTy .nilslice .cell = true := rfl
@[simp] theorem hasTy_slice (i ver : Nat) (path : List Nat) (t : Ty) (off len : Nat) (cap : Option Nat) : hasTy (.slice i ver path t off len cap) .cell = true := rfl
@[simp] theorem hasTy_bool (b : Bool) : hasTy (.bool b) .cell = true := rfl
@[simp] theorem hasTy_ptr (i ver : Nat) (path : List Nat) (t : Ty) : hasTy (.ptr i ver path t) .cell = true := rfl
@[simp] theorem hasTy_nilptr : hasTy .nilptr .cell = true := rfl
@[simp] theorem hasTy_fn (f : Nat) (c : List AV) : hasTy (.fn f c) .cell = true := rfl
@[simp] theorem hasTy_eSt (v : BitVec 32) (k : Ci) (c : Acc) (vt vp vs vi va vb : AV) : hasTy (eStH v k c vt vp vs vi va vb) tState = (hasTy vt .cell && (hasTy vp .cell && (hasTy vs .cell && (hasTy vi .cell && (hasTy va .cell && hasTy vb .cell))))) := by
  simp [eStH, hasTys]
@[simp] theorem hasTy_eAct (v : BitVec 32) (k : BitVec 8) (w : Ci) (e : Pt) (r : BitVec 8) (c : Acc) (vt vp : AV) : hasTy (eActH v k w e r c vt vp) tAction = (hasTy vt .cell && hasTy vp .cell) := by
  simp [eActH, hasTys]
theorem StR.cells {h : Heap} {s : Stt} {vt vp vs vi va vb : AV} (r : StR h s vt vp vs vi va vb) : hasTy vt .cell = true ∧ hasTy vp .cell = true ∧ hasTy vs .cell = true ∧ hasTy vi .cell = true ∧ hasTy va .cell = true ∧ hasTy vb .cell = true :=
  ⟨r.ft.cell, r.fp.cell, r.fs.cell, r.fi.cell, r.fa.cell, r.fb.cell⟩
theorem ActR.cells {h : Heap} {a : Actn} {vt vp : AV} (r : ActR h a vt vp) : hasTy vt .cell = true ∧ hasTy vp .cell = true := ⟨r.t.cell, r.p.cell⟩

section
variable (i ver : Nat) (path : List Nat) (t : Ty) (off len : Nat) (cap : Option Nat)
@[simp] theorem binP_eq : mBinP .eql (.ptr i ver path t) .nilptr = some (.bool false) := rfl
@[simp] theorem binP_ne : mBinP .neq (.ptr i ver path t) .nilptr = some (.bool true) := rfl
@[simp] theorem binP_eq0 : mBinP .eql .nilptr .nilptr = some (.bool true) := rfl
@[simp] theorem binP_ne0 : mBinP .neq .nilptr .nilptr = some (.bool false) := rfl
@[simp] theorem binS_eq : mBinS .eql (.slice i ver path t off len cap) .nilslice = some (.bool false) := rfl
@[simp] theorem binS_ne : mBinS .neq (.slice i ver path t off len cap) .nilslice = some (.bool true) := rfl
@[simp] theorem binS_eq0 : mBinS .eql .nilslice .nilslice = some (.bool true) := rfl
@[simp] theorem binS_ne0 : mBinS .neq .nilslice .nilslice = some (.bool false) := rfl
@[simp] theorem nilCheck_fn (f : Nat) (c : List AV) : mNilCheck (.fn f c) = some (.fn f c) := rfl
@[simp] theorem extract_0 (a : AV) (l : List AV) : mExtract (.tuple (a :: l)) 0 = some a := rfl
@[simp] theorem extract_1 (a b : AV) (l : List AV) : mExtract (.tuple (a :: b :: l)) 1 = some b := rfl
@[simp] theorem extract_2 (a b c : AV) (l : List AV) : mExtract (.tuple (a :: b :: c :: l)) 2 = some c := rfl
@[simp] theorem extract_3 (a b c d : AV) (l : List AV) : mExtract (.tuple (a :: b :: c :: d :: l)) 3 = some d := rfl
end

/-! reading and writing in them -/
attribute [simp] hasTys
@[simp] theorem mNew_if (t : Ty) (v : AV) (h : Heap) : mNew t v h = if hasTy v t = true then some (.ptr h.length 0 [] t, h ++ [⟨v, 0, .own⟩]) else none := rfl
@[simp] theorem stU_if (t : Ty) (i ver : Nat) (path : List Nat) (x : AV) (h : Heap) : stU t (.ptr i ver path t) x h = if hasTy x t = true then stR i ver path x h else none := by
  unfold stU mStore
  simp only [Ty.beq_self, Bool.true_and]
  split
  · unfold stR
    cases blkAt h i ver with
    | none => rfl
    | some b =>
      simp only [bnd_some]
      split
      · rfl
      · cases b.v.put path x <;> rfl
  · rfl
section
variable (v v' : BitVec 32) (k k' : Ci) (c c' : Acc) (vt vp vs vi va vb x : AV) (r : List Nat) (kd : BitVec 8) (w : Ci) (e : Pt) (ro : BitVec 8)
@[simp] theorem eSt_get0 : (eStH v k c vt vp vs vi va vb).get (0 :: r) = (u32 v).get r := by simp [eStH]
@[simp] theorem eSt_get1 : (eStH v k c vt vp vs vi va vb).get (1 :: r) = (eCi k).get r := by simp [eStH]
@[simp] theorem eSt_get2 : (eStH v k c vt vp vs vi va vb).get (2 :: r) = (vt).get r := by simp [eStH]
@[simp] theorem eSt_get3 : (eStH v k c vt vp vs vi va vb).get (3 :: r) = (eAcc c).get r := by simp [eStH]
@[simp] theorem eSt_get4 : (eStH v k c vt vp vs vi va vb).get (4 :: r) = (vp).get r := by simp [eStH]
@[simp] theorem eSt_get5 : (eStH v k c vt vp vs vi va vb).get (5 :: r) = (vs).get r := by simp [eStH]
@[simp] theorem eSt_get6 : (eStH v k c vt vp vs vi va vb).get (6 :: r) = (vi).get r := by simp [eStH]
@[simp] theorem eSt_get7 : (eStH v k c vt vp vs vi va vb).get (7 :: r) = (va).get r := by simp [eStH]
@[simp] theorem eSt_get8 : (eStH v k c vt vp vs vi va vb).get (8 :: r) = (vb).get r := by simp [eStH]
@[simp] theorem eSt_put0 : (eStH v k c vt vp vs vi va vb).put [0] (u32 v') = some (eStH v' k c vt vp vs vi va vb) := by simp [eStH]
@[simp] theorem eSt_put1 : (eStH v k c vt vp vs vi va vb).put [1] (eCi k') = some (eStH v k' c vt vp vs vi va vb) := by simp [eStH]
@[simp] theorem eSt_put2 : (eStH v k c vt vp vs vi va vb).put [2] x = some (eStH v k c x vp vs vi va vb) := by simp [eStH]
@[simp] theorem eSt_put3 : (eStH v k c vt vp vs vi va vb).put [3] (eAcc c') = some (eStH v k c' vt vp vs vi va vb) := by simp [eStH]
@[simp] theorem eSt_put4 : (eStH v k c vt vp vs vi va vb).put [4] x = some (eStH v k c vt x vs vi va vb) := by simp [eStH]
@[simp] theorem eSt_put5 : (eStH v k c vt vp vs vi va vb).put [5] x = some (eStH v k c vt vp x vi va vb) := by simp [eStH]
@[simp] theorem eSt_put6 : (eStH v k c vt vp vs vi va vb).put [6] x = some (eStH v k c vt vp vs x va vb) := by simp [eStH]
@[simp] theorem eSt_put7 : (eStH v k c vt vp vs vi va vb).put [7] x = some (eStH v k c vt vp vs vi x vb) := by simp [eStH]
@[simp] theorem eSt_put8 : (eStH v k c vt vp vs vi va vb).put [8] x = some (eStH v k c vt vp vs vi va x) := by simp [eStH]
@[simp] theorem eAct_get0 : (eActH v kd w e ro c vt vp).get (0 :: r) = (u32 v).get r := by simp [eActH]
@[simp] theorem eAct_get1 : (eActH v kd w e ro c vt vp).get (1 :: r) = (u8 kd).get r := by simp [eActH]
@[simp] theorem eAct_get2 : (eActH v kd w e ro c vt vp).get (2 :: r) = (eCi w).get r := by simp [eActH]
@[simp] theorem eAct_get3 : (eActH v kd w e ro c vt vp).get (3 :: r) = (pt e).get r := by simp [eActH]
@[simp] theorem eAct_get4 : (eActH v kd w e ro c vt vp).get (4 :: r) = (u8 ro).get r := by simp [eActH]
@[simp] theorem eAct_get5 : (eActH v kd w e ro c vt vp).get (5 :: r) = (vt).get r := by simp [eActH]
@[simp] theorem eAct_get6 : (eActH v kd w e ro c vt vp).get (6 :: r) = (eAcc c).get r := by simp [eActH]
@[simp] theorem eAct_get7 : (eActH v kd w e ro c vt vp).get (7 :: r) = (vp).get r := by simp [eActH]
@[simp] theorem eAct_put0 : (eActH v kd w e ro c vt vp).put [0] (u32 v') = some (eActH v' kd w e ro c vt vp) := by simp [eActH]
@[simp] theorem eAct_put5 : (eActH v kd w e ro c vt vp).put [5] x = some (eActH v kd w e ro c x vp) := by simp [eActH]
@[simp] theorem eAct_put7 : (eActH v kd w e ro c vt vp).put [7] x = some (eActH v kd w e ro c vt x) := by simp [eActH]
end
section
variable (r : List Nat)
variable (c : Ci) (z : Seat) (i : Inv) (q : Ask) (b : Ban) (k : Acc)
@[simp] theorem eCi_get0 : (eCi c).get (0 :: r) = (pt c.e).get r := by simp [eCi]
@[simp] theorem eCi_get1 : (eCi c).get (1 :: r) = (pt c.f).get r := by simp [eCi]
@[simp] theorem eSeat_get0 : (eSeat z).get (0 :: r) = (eCi z.who).get r := by simp [eSeat]
@[simp] theorem eSeat_get1 : (eSeat z).get (1 :: r) = (u8 z.role).get r := by simp [eSeat]
@[simp] theorem eSeat_get2 : (eSeat z).get (2 :: r) = (u32 z.joined).get r := by simp [eSeat]
@[simp] theorem eInv_get0 : (eInv i).get (0 :: r) = (eCi i.who).get r := by simp [eInv]
@[simp] theorem eInv_get1 : (eInv i).get (1 :: r) = (u8 i.role).get r := by simp [eInv]
@[simp] theorem eInv_get2 : (eInv i).get (2 :: r) = (eCi i.by_).get r := by simp [eInv]
@[simp] theorem eAsk_get0 : (eAsk q).get (0 :: r) = (eCi q.who).get r := by simp [eAsk]
@[simp] theorem eAsk_get1 : (eAsk q).get (1 :: r) = (u32 q.at_).get r := by simp [eAsk]
@[simp] theorem eBan_get0 : (eBan b).get (0 :: r) = (eCi b.who).get r := by simp [eBan]
@[simp] theorem eBan_get1 : (eBan b).get (1 :: r) = (eCi b.by_).get r := by simp [eBan]
@[simp] theorem eAcc_get0 : (eAcc k).get (0 :: r) = (u8 k.title).get r := by simp [eAcc]
@[simp] theorem eAcc_get1 : (eAcc k).get (1 :: r) = (u8 k.members).get r := by simp [eAcc]
@[simp] theorem eAcc_get2 : (eAcc k).get (2 :: r) = (u8 k.link).get r := by simp [eAcc]
end

section
variable (a b : Pt) (c d : Ci) (r r2 r3 : BitVec 8) (j : BitVec 32) (k : Acc) (vt vp vs vi va vb : AV)
@[simp] theorem fold_eCi : AV.node [pt a, pt b] = eCi ⟨a, b⟩ := rfl
@[simp] theorem fold_eSeat : AV.node [eCi c, u8 r, u32 j] = eSeat ⟨c, r, j⟩ := rfl
@[simp] theorem fold_eInv : AV.node [eCi c, u8 r, eCi d] = eInv ⟨c, r, d⟩ := rfl
@[simp] theorem fold_eAsk : AV.node [eCi c, u32 j] = eAsk ⟨c, j⟩ := rfl
@[simp] theorem fold_eBan : AV.node [eCi c, eCi d] = eBan ⟨c, d⟩ := rfl
@[simp] theorem fold_eSt (v : BitVec 32) : AV.node [u32 v, eCi c, vt, eAcc k, vp, vs, vi, va, vb] = eStH v c k vt vp vs vi va vb := rfl
@[simp] theorem fold_eAct (v : BitVec 32) (kd : BitVec 8) (e : Pt) : AV.node [u32 v, u8 kd, eCi c, pt e, u8 r, vt, eAcc k, vp] = eActH v kd c e r k vt vp := rfl
@[simp] theorem fold_eAcc : AV.node [u8 r, u8 r2, u8 r3] = eAcc ⟨r, r2, r3⟩ := rfl
end

theorem fin_b {h l : Heap} {b c : Bool} (hb : c = b) : ∃ t, (oneOrTuple [.bool c], h ++ l) = ((.bool b, h ++ t) : AV × Heap) := ⟨l, by simp [oneOrTuple, hb]⟩
theorem fin_v {h l : Heap} {v w : AV} (hb : v = w) : ∃ t, (oneOrTuple [v], h ++ l) = ((w, h ++ t) : AV × Heap) := ⟨l, by simp [oneOrTuple, hb]⟩

end Go.Vab

/-
  What was read, as data: numbers, rows of bytes, structs, slices.
-/
namespace Go.Vas
open Go Go.Vab

def ftys (P : Program) (t : TypeId) : Option (List TypeId) := match P.underlying t with
  | some (.struct fs) => some (fs.toList.map (·.type))
  | _ => none

variable {P : Program} {tt : Nat → Option TI}

/-- Values of a type without slices. -/
def Reads (P : Program) (tt : Nat → Option TI) (t : TypeId) (T : Ty) {Y : Type} (enc : Y → AV) : Prop := ∀ (h : Heap) (n : Nat) (a : AV), hasTy a T = true → Rd P tt h n t a → ∃ y, a = enc y

theorem rdI8 {t : TypeId} {T : Ty} (hu : P.underlying t = some (.int .u8)) : Reads P tt t T u8 := by
  intro h n a _ hr
  cases n with
  | zero => exact hr.elim
  | succ n =>
    simp only [Rd, hu] at hr
    obtain ⟨x, rfl, hw⟩ := hr
    simp [Lit.wf, IntKind.min, IntKind.max, IntKind.signed, IntKind.bits] at hw
    refine ⟨BitVec.ofInt 8 x, ?_⟩
    unfold u8
    rw [BitVec.toNat_ofInt]
    congr 1
    have h2 : ((2 ^ 8 : Nat) : Int) = 256 := rfl
    omega
theorem rdI32 {t : TypeId} {T : Ty} (hu : P.underlying t = some (.int .u32)) : Reads P tt t T u32 := by
  intro h n a _ hr
  cases n with
  | zero => exact hr.elim
  | succ n =>
    simp only [Rd, hu] at hr
    obtain ⟨x, rfl, hw⟩ := hr
    simp [Lit.wf, IntKind.min, IntKind.max, IntKind.signed, IntKind.bits] at hw
    refine ⟨BitVec.ofInt 32 x, ?_⟩
    unfold u32
    rw [BitVec.toNat_ofInt]
    congr 1
    have h2 : ((2 ^ 32 : Nat) : Int) = 4294967296 := rfl
    omega

theorem row8 {h : Heap} {n m : Nat} {e : TypeId} {v : AV} (hu : P.underlying e = some (.int .u8)) (ht : hasTy v (.arr m (.int .u8)) = true) (hr : ∀ j, j < m → ∃ x, v.get [j] = some x ∧ Rd P tt h n e x) : ∃ g : Nat → BitVec 8, v = arr m g := by
  cases v <;> simp [hasTy] at ht
  rename_i k xs
  obtain ⟨rfl, hl⟩ := ht
  have he : ∀ j, j < m → ∃ b : BitVec 8, xs[j]? = some (b.toNat : Int) := by
    intro j hj
    obtain ⟨x, hx, hd⟩ := hr j hj
    have hx' := hx
    simp only [AV.get] at hx
    cases hxs : xs[j]? with
    | none => rw [hxs] at hx; cases hx
    | some y =>
      rw [hxs] at hx
      obtain ⟨b, rfl⟩ := rdI8 (T := .int .u8) hu h n (.int .u8 y) (by simp [hasTy]) (by simp only [Option.some.injEq] at hx; rw [hx]; exact hd) |> fun ⟨b, hb⟩ => (⟨b, by simpa [u8] using hb⟩ : ∃ b : BitVec 8, y = (b.toNat : Int))
      exact ⟨b, rfl⟩
  refine ⟨fun j => match xs[j]? with | some y => BitVec.ofInt 8 y | none => 0#8, ?_⟩
  unfold Vab.arr Vab.bytes
  congr 1
  apply List.ext_getElem?
  intro j
  rw [List.getElem?_map]
  by_cases hj : j < m
  · obtain ⟨b, hb⟩ := he j hj
    rw [range_map_getD, if_pos hj, hb]
    simp
  · rw [range_map_getD, if_neg hj, List.getElem?_eq_none (by omega)]; rfl

theorem rdArr {t e : TypeId} {m : Nat} (hu : P.underlying t = some (.array m e)) (he : P.underlying e = some (.int .u8)) : Reads P tt t (.arr m (.int .u8)) fun g => arr m g := by
  intro h n a ht hr
  cases n with
  | zero => exact hr.elim
  | succ n =>
    simp only [Rd, hu] at hr
    exact row8 he ht hr
theorem rdPt {t e : TypeId} (hu : P.underlying t = some (.array 32 e)) (he : P.underlying e = some (.int .u8)) : Reads P tt t (.arr 32 (.int .u8)) pt := by
  intro h n a ht hr
  obtain ⟨g, rfl⟩ := rdArr hu he h n a ht hr
  exact ⟨_, arr_pt g⟩

theorem rdS {t : TypeId} {us : List TypeId} {h : Heap} {n : Nat} {a : AV} (hf : ftys P t = some us) (hr : Rd P tt h n t a) : ∃ vs m, a = .node vs ∧ ∀ (f : Nat) u, us[f]? = some u → ∃ y, vs[f]? = some y ∧ Rd P tt h m u y := by
  cases n with
  | zero => exact hr.elim
  | succ n =>
    unfold ftys at hf
    cases hu : P.underlying t with
    | none => rw [hu] at hf; cases hf
    | some d =>
      rw [hu] at hf
      cases d <;> try (cases hf; done)
      rename_i fs
      simp only [Option.some.injEq] at hf
      subst hf
      unfold Rd at hr
      rw [hu] at hr
      obtain ⟨vs, h1, h2⟩ := hr
      refine ⟨vs, n, h1, fun f u hfu => ?_⟩
      rw [List.getElem?_map] at hfu
      cases hx : fs[f]? with
      | none => rw [Array.getElem?_toList, hx] at hfu; cases hfu
      | some x =>
        rw [Array.getElem?_toList, hx] at hfu
        simp only [Option.map_some, Option.some.injEq] at hfu
        subst hfu
        exact h2 f x hx
theorem hasTys_c {vs : List AV} {t : Ty} {ts : List Ty} (h : hasTys vs (t :: ts) = true) : ∃ v us, vs = v :: us ∧ hasTy v t = true ∧ hasTys us ts = true := by
  cases vs with
  | nil => simp [hasTys] at h
  | cons v us =>
    simp only [hasTys, Bool.and_eq_true] at h
    exact ⟨v, us, rfl, h.1, h.2⟩
theorem hasTys_n {vs : List AV} (h : hasTys vs [] = true) : vs = [] := by
  cases vs with
  | nil => rfl
  | cons v us => simp [hasTys] at h

theorem byt_own {h : Heap} {i ver n m c : Nat} {b : Blk} {f : Nat → BitVec 8} (hb : blkAt h i ver = some b) (hv : b.v = arr m f) (hl : n ≤ m) (hc : n ≤ c) : Byt h (.slice i ver [] (.int .u8) 0 n (some c)) n f := by
  refine ⟨?_, rfl, hc, rfl⟩
  rw [mElems_slc, hb, bnd_some, get_nil, bnd_some, hv, arr_cut, if_pos (by omega)]
  exact congrArg some (arr_congr fun i _ => by rw [Nat.zero_add])

/-- Bytes. -/
theorem rdB {t e : TypeId} {h : Heap} {n : Nat} {a : AV} (hu : P.underlying t = some (.slice e)) (he : P.underlying e = some (.int .u8)) (hb : P.bytesOf e = 1) (hte : ∀ el, tt e = some el → el.ty = .int .u8) (hr : Rd P tt h n t a) : ∃ l, BytL h a l := by
  cases n with
  | zero => exact hr.elim
  | succ n =>
    simp only [Rd, hu] at hr
    rcases hr with rfl | ⟨i, el, row, mo, len, cap, rfl, h2, h3, h4, h5, h6, hw, h7⟩
    · exact ⟨[], BytL.nil _⟩
    · have e1 := hte _ h2
      rw [e1] at h4 ⊢
      obtain ⟨g, rfl⟩ := row8 he h4 h7
      rw [hb] at hw
      unfold reachBytes at hw
      exact ⟨_, BytL.of (byt_own (b := ⟨Vab.arr cap g, 0, mo⟩) (by unfold blkAt; rw [h3]; rfl) rfl h5 h5) (by omega)⟩

theorem maps_of {Y : Type} {enc : Y → AV} : ∀ {us : List AV}, (∀ x ∈ us, ∃ y, x = enc y) → ∃ l : List Y, us = l.map enc
  | [], _ => ⟨[], rfl⟩
  | x :: us, h => by
    obtain ⟨y, rfl⟩ := h x (List.mem_cons_self ..)
    obtain ⟨l, rfl⟩ := maps_of (us := us) fun x hx => h x (List.mem_cons_of_mem _ hx)
    exact ⟨y :: l, rfl⟩

/-- Slices of structs. -/
theorem rdR {t e : TypeId} {h : Heap} {n : Nat} {a : AV} {T : Ty} {Y : Type} {enc : Y → AV} (hu : P.underlying t = some (.slice e)) (hb : 0 < P.bytesOf e) (hte : ∀ el, tt e = some el → el.ty = T) (hT : ∃ ts, T = .struct ts) (hY : Reads P tt e T enc) (hr : Rd P tt h n t a) : ∃ l : List Y, Row T h a (l.map enc) := by
  cases n with
  | zero => exact hr.elim
  | succ n =>
    simp only [Rd, hu] at hr
    rcases hr with rfl | ⟨i, el, row, mo, len, cap, rfl, h2, h3, h4, h5, h6, hw, h7⟩
    · obtain ⟨ts, rfl⟩ := hT
      exact ⟨[], by simp [mElems], rfl, by simp⟩
    · have e1 := hte _ h2
      rw [e1] at h4 ⊢
      obtain ⟨ts, rfl⟩ := hT
      have hrow : ∃ us, row = .node us ∧ us.length = cap ∧ ∀ x ∈ us, hasTy x (.struct ts) = true := by
        cases row <;> simp only [hasTy, Bool.false_eq_true] at h4
        rename_i us
        simp only [Bool.and_eq_true, decide_eq_true_eq, hasTyAll_iff] at h4
        exact ⟨us, rfl, h4.1, h4.2⟩
      obtain ⟨us, rfl, hl, hty⟩ := hrow
      have hall : ∀ x ∈ us.take len, ∃ y, x = enc y := by
        intro x hx
        have hx2 := List.mem_of_mem_take hx
        obtain ⟨j, hj⟩ := List.getElem?_of_mem hx2
        have hlt := (List.getElem?_eq_some_iff.1 hj).1
        obtain ⟨y, hy, hd⟩ := h7 j (by omega)
        simp only [get_node, hj] at hy
        simp at hy
        subst hy
        exact hY h n x (hty x hx2) hd
      obtain ⟨l, hml⟩ := maps_of hall
      refine ⟨l, ?_⟩
      rw [← hml]
      have hlen : (us.take len).length = len := by rw [List.length_take]; omega
      refine ⟨?_, ?_, ?_⟩
      · rw [mElems_row]
        have : blkAt h i 0 = some ⟨.node us, 0, mo⟩ := by unfold blkAt; rw [h3]; rfl
        rw [this, bnd_some, get_nil, bnd_some]
        simp only [AV.cut, Nat.zero_add]
        rw [if_pos (by omega), List.drop_zero]
      · rw [hlen]; exact ⟨rfl, h5, rfl⟩
      · rw [hlen]
        have : len * 1 ≤ len * P.bytesOf e := Nat.mul_le_mul_left _ hb
        unfold reachBytes at hw
        omega

/-! structs without slices -/
theorem rdCi {t p : TypeId} (hf : ftys P t = some [p, p]) (hp : Reads P tt p (.arr 32 (.int .u8)) pt) : Reads P tt t tCipher eCi := by
  intro h n a ht hr
  obtain ⟨vs, m, rfl, hv⟩ := rdS hf hr
  obtain ⟨x0, vs, rfl, t0, ht⟩ := hasTys_c (by simpa using ht)
  obtain ⟨x1, vs, rfl, t1, ht⟩ := hasTys_c ht
  obtain rfl := hasTys_n ht
  obtain ⟨_, e0, r0⟩ := hv 0 _ rfl
  obtain ⟨_, e1, r1⟩ := hv 1 _ rfl
  cases e0; cases e1
  obtain ⟨y0, rfl⟩ := hp _ _ _ t0 r0
  obtain ⟨y1, rfl⟩ := hp _ _ _ t1 r1
  exact ⟨⟨y0, y1⟩, rfl⟩
theorem rdAcc {t b c : TypeId} (hf : ftys P t = some [b, b, c]) (hb : P.underlying b = some (.int .u8)) (hc : P.underlying c = some (.int .u8)) : Reads P tt t tAccess eAcc := by
  intro h n a ht hr
  obtain ⟨vs, m, rfl, hv⟩ := rdS hf hr
  obtain ⟨x0, vs, rfl, t0, ht⟩ := hasTys_c (by simpa using ht)
  obtain ⟨x1, vs, rfl, t1, ht⟩ := hasTys_c ht
  obtain ⟨x2, vs, rfl, t2, ht⟩ := hasTys_c ht
  obtain rfl := hasTys_n ht
  obtain ⟨_, e0, r0⟩ := hv 0 _ rfl
  obtain ⟨_, e1, r1⟩ := hv 1 _ rfl
  obtain ⟨_, e2, r2⟩ := hv 2 _ rfl
  cases e0; cases e1; cases e2
  obtain ⟨y0, rfl⟩ := rdI8 hb _ _ _ t0 r0
  obtain ⟨y1, rfl⟩ := rdI8 hb _ _ _ t1 r1
  obtain ⟨y2, rfl⟩ := rdI8 hc _ _ _ t2 r2
  exact ⟨⟨y0, y1, y2⟩, rfl⟩
theorem rdSeat {t c r w : TypeId} (hf : ftys P t = some [c, r, w]) (hc : Reads P tt c tCipher eCi) (hr' : P.underlying r = some (.int .u8)) (hw : P.underlying w = some (.int .u32)) : Reads P tt t tSeat eSeat := by
  intro h n a ht hr
  obtain ⟨vs, m, rfl, hv⟩ := rdS hf hr
  obtain ⟨x0, vs, rfl, t0, ht⟩ := hasTys_c (by simpa using ht)
  obtain ⟨x1, vs, rfl, t1, ht⟩ := hasTys_c ht
  obtain ⟨x2, vs, rfl, t2, ht⟩ := hasTys_c ht
  obtain rfl := hasTys_n ht
  obtain ⟨_, e0, r0⟩ := hv 0 _ rfl
  obtain ⟨_, e1, r1⟩ := hv 1 _ rfl
  obtain ⟨_, e2, r2⟩ := hv 2 _ rfl
  cases e0; cases e1; cases e2
  obtain ⟨y0, rfl⟩ := hc _ _ _ t0 r0
  obtain ⟨y1, rfl⟩ := rdI8 hr' _ _ _ t1 r1
  obtain ⟨y2, rfl⟩ := rdI32 hw _ _ _ t2 r2
  exact ⟨⟨y0, y1, y2⟩, rfl⟩
theorem rdInv {t c r : TypeId} (hf : ftys P t = some [c, r, c]) (hc : Reads P tt c tCipher eCi) (hr' : P.underlying r = some (.int .u8)) : Reads P tt t tInvite eInv := by
  intro h n a ht hr
  obtain ⟨vs, m, rfl, hv⟩ := rdS hf hr
  obtain ⟨x0, vs, rfl, t0, ht⟩ := hasTys_c (by simpa using ht)
  obtain ⟨x1, vs, rfl, t1, ht⟩ := hasTys_c ht
  obtain ⟨x2, vs, rfl, t2, ht⟩ := hasTys_c ht
  obtain rfl := hasTys_n ht
  obtain ⟨_, e0, r0⟩ := hv 0 _ rfl
  obtain ⟨_, e1, r1⟩ := hv 1 _ rfl
  obtain ⟨_, e2, r2⟩ := hv 2 _ rfl
  cases e0; cases e1; cases e2
  obtain ⟨y0, rfl⟩ := hc _ _ _ t0 r0
  obtain ⟨y1, rfl⟩ := rdI8 hr' _ _ _ t1 r1
  obtain ⟨y2, rfl⟩ := hc _ _ _ t2 r2
  exact ⟨⟨y0, y1, y2⟩, rfl⟩
theorem rdAsk {t c w : TypeId} (hf : ftys P t = some [c, w]) (hc : Reads P tt c tCipher eCi) (hw : P.underlying w = some (.int .u32)) : Reads P tt t tAsk eAsk := by
  intro h n a ht hr
  obtain ⟨vs, m, rfl, hv⟩ := rdS hf hr
  obtain ⟨x0, vs, rfl, t0, ht⟩ := hasTys_c (by simpa using ht)
  obtain ⟨x1, vs, rfl, t1, ht⟩ := hasTys_c ht
  obtain rfl := hasTys_n ht
  obtain ⟨_, e0, r0⟩ := hv 0 _ rfl
  obtain ⟨_, e1, r1⟩ := hv 1 _ rfl
  cases e0; cases e1
  obtain ⟨y0, rfl⟩ := hc _ _ _ t0 r0
  obtain ⟨y1, rfl⟩ := rdI32 hw _ _ _ t1 r1
  exact ⟨⟨y0, y1⟩, rfl⟩
theorem rdBan {t c : TypeId} (hf : ftys P t = some [c, c]) (hc : Reads P tt c tCipher eCi) : Reads P tt t tBan eBan := by
  intro h n a ht hr
  obtain ⟨vs, m, rfl, hv⟩ := rdS hf hr
  obtain ⟨x0, vs, rfl, t0, ht⟩ := hasTys_c (by simpa using ht)
  obtain ⟨x1, vs, rfl, t1, ht⟩ := hasTys_c ht
  obtain rfl := hasTys_n ht
  obtain ⟨_, e0, r0⟩ := hv 0 _ rfl
  obtain ⟨_, e1, r1⟩ := hv 1 _ rfl
  cases e0; cases e1
  obtain ⟨y0, rfl⟩ := hc _ _ _ t0 r0
  obtain ⟨y1, rfl⟩ := hc _ _ _ t1 r1
  exact ⟨⟨y0, y1⟩, rfl⟩

/-- Slices, read. -/
def ReadsB (P : Program) (tt : Nat → Option TI) (t : TypeId) : Prop := ∀ (h : Heap) (n : Nat) (a : AV), Rd P tt h n t a → ∃ l, BytL h a l
def ReadsR (P : Program) (tt : Nat → Option TI) (t : TypeId) (T : Ty) {Y : Type} (enc : Y → AV) : Prop := ∀ (h : Heap) (n : Nat) (a : AV), Rd P tt h n t a → ∃ l : List Y, Row T h a (l.map enc)

theorem rdState {t w k b c s i q d : TypeId} (hf : ftys P t = some [w, k, b, c, b, s, i, q, d]) (hw : P.underlying w = some (.int .u32)) (hk : Reads P tt k tCipher eCi) (hb : ReadsB P tt b) (hc : Reads P tt c tAccess eAcc)
    (hs : ReadsR P tt s tSeat eSeat) (hi : ReadsR P tt i tInvite eInv) (hq : ReadsR P tt q tAsk eAsk) (hd : ReadsR P tt d tBan eBan) {h : Heap} {n : Nat} {a : AV} (ht : hasTy a tState = true) (hr : Rd P tt h n t a) :
    ∃ (x : Stt) (vt vp vs vi va vb : AV), a = eSt x vt vp vs vi va vb ∧ StR h x vt vp vs vi va vb := by
  obtain ⟨vs, m, rfl, hv⟩ := rdS hf hr
  obtain ⟨x0, vs, rfl, t0, ht⟩ := hasTys_c (by simpa using ht)
  obtain ⟨x1, vs, rfl, t1, ht⟩ := hasTys_c ht
  obtain ⟨x2, vs, rfl, t2, ht⟩ := hasTys_c ht
  obtain ⟨x3, vs, rfl, t3, ht⟩ := hasTys_c ht
  obtain ⟨x4, vs, rfl, t4, ht⟩ := hasTys_c ht
  obtain ⟨x5, vs, rfl, t5, ht⟩ := hasTys_c ht
  obtain ⟨x6, vs, rfl, t6, ht⟩ := hasTys_c ht
  obtain ⟨x7, vs, rfl, t7, ht⟩ := hasTys_c ht
  obtain ⟨x8, vs, rfl, t8, ht⟩ := hasTys_c ht
  obtain rfl := hasTys_n ht
  obtain ⟨_, e0, r0⟩ := hv 0 _ rfl
  obtain ⟨_, e1, r1⟩ := hv 1 _ rfl
  obtain ⟨_, e2, r2⟩ := hv 2 _ rfl
  obtain ⟨_, e3, r3⟩ := hv 3 _ rfl
  obtain ⟨_, e4, r4⟩ := hv 4 _ rfl
  obtain ⟨_, e5, r5⟩ := hv 5 _ rfl
  obtain ⟨_, e6, r6⟩ := hv 6 _ rfl
  obtain ⟨_, e7, r7⟩ := hv 7 _ rfl
  obtain ⟨_, e8, r8⟩ := hv 8 _ rfl
  cases e0; cases e1; cases e2; cases e3; cases e4; cases e5; cases e6; cases e7; cases e8
  obtain ⟨y0, rfl⟩ := rdI32 hw _ _ _ t0 r0
  obtain ⟨y1, rfl⟩ := hk _ _ _ t1 r1
  obtain ⟨y2, h2⟩ := hb _ _ _ r2
  obtain ⟨y3, rfl⟩ := hc _ _ _ t3 r3
  obtain ⟨y4, h4⟩ := hb _ _ _ r4
  obtain ⟨y5, h5⟩ := hs _ _ _ r5
  obtain ⟨y6, h6⟩ := hi _ _ _ r6
  obtain ⟨y7, h7⟩ := hq _ _ _ r7
  obtain ⟨y8, h8⟩ := hd _ _ _ r8
  exact ⟨⟨y0, y1, y2, y3, y4, y5, y6, y7, y8⟩, x2, x4, x5, x6, x7, x8, rfl, ⟨h2, h4, h5, h6, h7, h8⟩⟩

theorem rdAction {t w k u p r b c : TypeId} (hf : ftys P t = some [w, k, u, p, r, b, c, b]) (hw : P.underlying w = some (.int .u32)) (hk : P.underlying k = some (.int .u8)) (hu : Reads P tt u tCipher eCi) (hp : Reads P tt p (.arr 32 (.int .u8)) pt)
    (hr' : P.underlying r = some (.int .u8)) (hb : ReadsB P tt b) (hc : Reads P tt c tAccess eAcc) {h : Heap} {n : Nat} {a : AV} (ht : hasTy a tAction = true) (hr : Rd P tt h n t a) :
    ∃ (x : Actn) (vt vp : AV), a = eAct x vt vp ∧ ActR h x vt vp := by
  obtain ⟨vs, m, rfl, hv⟩ := rdS hf hr
  obtain ⟨x0, vs, rfl, t0, ht⟩ := hasTys_c (by simpa using ht)
  obtain ⟨x1, vs, rfl, t1, ht⟩ := hasTys_c ht
  obtain ⟨x2, vs, rfl, t2, ht⟩ := hasTys_c ht
  obtain ⟨x3, vs, rfl, t3, ht⟩ := hasTys_c ht
  obtain ⟨x4, vs, rfl, t4, ht⟩ := hasTys_c ht
  obtain ⟨x5, vs, rfl, t5, ht⟩ := hasTys_c ht
  obtain ⟨x6, vs, rfl, t6, ht⟩ := hasTys_c ht
  obtain ⟨x7, vs, rfl, t7, ht⟩ := hasTys_c ht
  obtain rfl := hasTys_n ht
  obtain ⟨_, e0, r0⟩ := hv 0 _ rfl
  obtain ⟨_, e1, r1⟩ := hv 1 _ rfl
  obtain ⟨_, e2, r2⟩ := hv 2 _ rfl
  obtain ⟨_, e3, r3⟩ := hv 3 _ rfl
  obtain ⟨_, e4, r4⟩ := hv 4 _ rfl
  obtain ⟨_, e5, r5⟩ := hv 5 _ rfl
  obtain ⟨_, e6, r6⟩ := hv 6 _ rfl
  obtain ⟨_, e7, r7⟩ := hv 7 _ rfl
  cases e0; cases e1; cases e2; cases e3; cases e4; cases e5; cases e6; cases e7
  obtain ⟨y0, rfl⟩ := rdI32 hw _ _ _ t0 r0
  obtain ⟨y1, rfl⟩ := rdI8 hk _ _ _ t1 r1
  obtain ⟨y2, rfl⟩ := hu _ _ _ t2 r2
  obtain ⟨y3, rfl⟩ := hp _ _ _ t3 r3
  obtain ⟨y4, rfl⟩ := rdI8 hr' _ _ _ t4 r4
  obtain ⟨y5, h5⟩ := hb _ _ _ r5
  obtain ⟨y6, rfl⟩ := hc _ _ _ t6 r6
  obtain ⟨y7, h7⟩ := hb _ _ _ r7
  exact ⟨⟨y0, y1, y2, y3, y4, y5, y6, y7⟩, x5, x7, rfl, ⟨h5, h7⟩⟩

end Go.Vas

/-
  Rows that are copied: new memory behind.
-/
namespace Go.Vab
open Go

/-- A row that lies behind the first m blocks. -/
def RowFrom (m : Nat) (u : Heap) (t : Ty) (y : AV) (vs : List AV) : Prop := ∀ F l : Heap, F.length = m → Row t (F ++ (u ++ l)) y vs
def BytFrom (m : Nat) (u : Heap) (y : AV) (b : Bs) : Prop := ∀ F l : Heap, F.length = m → BytL (F ++ (u ++ l)) y b

theorem RowFrom.app {m : Nat} {u : Heap} {t : Ty} {y : AV} {vs : List AV} (h : RowFrom m u t y vs) (e : Heap) : RowFrom m (u ++ e) t y vs := fun F l hF => by rw [List.append_assoc]; exact h F (e ++ l) hF
theorem BytFrom.app {m : Nat} {u : Heap} {y : AV} {b : Bs} (h : BytFrom m u y b) (e : Heap) : BytFrom m (u ++ e) y b := fun F l hF => by rw [List.append_assoc]; exact h F (e ++ l) hF
theorem RowFrom.at_ {m : Nat} {u : Heap} {t : Ty} {y : AV} {vs : List AV} (h : RowFrom m u t y vs) {F : Heap} (hF : F.length = m) : Row t (F ++ u) y vs := by simpa using h F [] hF
theorem BytFrom.at_ {m : Nat} {u : Heap} {y : AV} {b : Bs} (h : BytFrom m u y b) {F : Heap} (hF : F.length = m) : BytL (F ++ u) y b := by simpa using h F [] hF
theorem RowFrom.cell {m : Nat} {u : Heap} {t : Ty} {y : AV} {vs : List AV} (h : RowFrom m u t y vs) : hasTy y .cell = true := (h (List.replicate m ⟨.undef, 0, .own⟩) [] (by simp)).cell
theorem BytFrom.cell {m : Nat} {u : Heap} {y : AV} {b : Bs} (h : BytFrom m u y b) : hasTy y .cell = true := (h (List.replicate m ⟨.undef, 0, .own⟩) [] (by simp)).cell

theorem blkAt_behind {F F' u : Heap} {k ver : Nat} {b : Blk} (hF : F'.length = F.length) (hk : F.length ≤ k) (h : blkAt (F ++ u) k ver = some b) (l : Heap) : blkAt (F' ++ (u ++ l)) k ver = some b := by
  obtain ⟨k, rfl⟩ : ∃ j, k = F.length + j := ⟨k - F.length, by omega⟩
  rw [blkAt_new] at h
  rw [← hF, blkAt_new]
  exact blkAt_app h l

theorem mElems_behind {F F' u : Heap} {k ver : Nat} {path : List Nat} {t t' : Ty} {off len : Nat} {cap : Option Nat} {r : AV} (hF : F'.length = F.length) (hk : F.length ≤ k) (h : mElems t (.slice k ver path t' off len cap) (F ++ u) = some r) (l : Heap) :
    mElems t (.slice k ver path t' off len cap) (F' ++ (u ++ l)) = some r := by
  simp only [mElems] at h ⊢
  split at h
  · rename_i hb
    rw [if_pos hb]
    obtain ⟨b, h1, h2⟩ := bnd_eq_some.1 h
    rw [blkAt_behind hF hk h1 l, bnd_some]
    exact h2
  · cases h

@[simp] theorem rowLen_node (vs : List AV) : (AV.node vs).rowLen = some vs.length := rfl
@[simp] theorem join_node (vs us : List AV) : (AV.node vs).join (.node us) = some (.node (vs ++ us)) := rfl
@[simp] theorem cut_node_eq (vs : List AV) (off n : Nat) : (AV.node vs).cut off n = if off + n ≤ vs.length then some (.node ((vs.drop off).take n)) else none := rfl

@[simp] theorem cut_ints0 (k : IntKind) : (AV.ints k []).cut 0 0 = some (.ints k []) := rfl
theorem padRow_node {vs : List AV} {zero : AV} (hz : ∀ m, zeroRow m zero = .node (List.replicate m zero)) (m : Nat) : padRow (.node vs) zero m = some (.node (vs ++ List.replicate m zero)) := by
  unfold padRow; rw [hz]; rfl

/-- A new row with some room. -/
theorem fresh_from {t : Ty} {F u : Heap} {vs pad : List AV} {c : Nat} (hc : vs.length + pad.length = c) (hb : vs.length ≤ 140737488355328) :
    RowFrom F.length (u ++ [⟨.node (vs ++ pad), 0, .own⟩]) t (.slice (F ++ u).length 0 [] t 0 vs.length (some c)) vs := by
  intro F' l hF
  refine ⟨?_, ⟨rfl, by omega, rfl⟩, hb⟩
  rw [mElems_row]
  have : blkAt (F' ++ (u ++ [⟨.node (vs ++ pad), 0, .own⟩] ++ l)) (F ++ u).length 0 = some ⟨.node (vs ++ pad), 0, .own⟩ := by
    rw [List.length_append, ← hF, blkAt_new, List.append_assoc, blkAt_new0]
    simp
  rw [this]
  simp

theorem appW_copyR {t : Ty} {bytes : Nat} {zero : AV} {H F u : Heap} {x : AV} {vs : List AV} {k : Nat} {K : AV × Heap → Prop} (hH : H = F ++ u) (hz : ∀ m, zeroRow m zero = .node (List.replicate m zero))
    (hs : mElems t (.slice k 0 [] t 0 0 (some 0)) H = some (.node [])) (hx : Row t H x vs) (hb : vs.length * bytes ≤ roomBound) (hb3 : bytes ≤ 1000000) (hk : F.length ≤ k)
    (hK : ∀ y e, RowFrom F.length (u ++ e) t y vs → K (y, F ++ (u ++ e))) : appW t bytes zero (.slice k 0 [] t 0 0 (some 0)) x H K := by
  subst hH
  have hbd := hx.bound
  refine ⟨.node vs, vs.length, hx.1, rfl, .node [], .node vs, hs, rfl, ?_⟩
  by_cases h0 : vs.length = 0
  · have hv : vs = [] := List.eq_nil_of_length_eq_zero h0
    subst hv
    refine .inl ⟨h0, Nat.le_refl _, ?_⟩
    have := hK (.slice k 0 [] t 0 0 (some 0)) [] fun F' l hF => ⟨by simpa using mElems_behind hF hk hs l, ⟨rfl, Nat.le_refl _, rfl⟩, by simp⟩
    simpa using this
  · refine .inr (.inr ⟨by omega, by omega, by simpa using hb, by unfold roomBound; omega, hb3, fun c row hc hr => ?_⟩)
    rw [padRow_node hz] at hr
    cases hr
    simp only [Nat.zero_add] at hc ⊢
    have := hK _ _ (fresh_from (t := t) (F := F) (u := u) (pad := List.replicate (c - vs.length) zero) (c := c) (by simp; omega) hbd)
    rw [List.append_assoc]
    exact this

theorem strip_arr (l : Bs) (m : Nat) : (arr l.length (Bs.g l)).join (.ints .u8 (List.replicate m 0)) = some (arr (l.length + m) fun i => if i < l.length then l.g i else 0#8) := by
  have : (AV.ints .u8 (List.replicate m 0)) = arr m fun _ => 0#8 := by
    simp [arr, bytes, List.map_const']
  rw [this, arr_join]

theorem fresh_fromB {F u : Heap} {l : Bs} {c m : Nat} (hc : l.length + m = c) (hb : l.length ≤ 140737488355328) :
    BytFrom F.length (u ++ [⟨arr (l.length + m) fun i => if i < l.length then l.g i else 0#8, 0, .own⟩]) (.slice (F ++ u).length 0 [] (.int .u8) 0 l.length (some c)) l := by
  intro F' e hF
  refine ⟨⟨?_, ⟨rfl, by omega, rfl⟩⟩, hb⟩
  rw [mElems_slc]
  have : blkAt (F' ++ (u ++ [⟨arr (l.length + m) fun i => if i < l.length then l.g i else 0#8, 0, .own⟩] ++ e)) (F ++ u).length 0 = some ⟨arr (l.length + m) fun i => if i < l.length then l.g i else 0#8, 0, .own⟩ := by
    rw [List.length_append, ← hF, blkAt_new, List.append_assoc, blkAt_new0]
    simp
  rw [this]
  simp only [bnd_some, get_nil, arr_cut, Nat.zero_add]
  rw [if_pos (by omega)]
  congr 1
  exact arr_congr fun i hi => by simp [hi]

theorem appW_copyB {H F u : Heap} {x : AV} {l : Bs} {k : Nat} {K : AV × Heap → Prop} (hH : H = F ++ u) (hs : mElems (.int .u8) (.slice k 0 [] (.int .u8) 0 0 (some 0)) H = some (.ints .u8 [])) (hx : BytL H x l) (hk : F.length ≤ k)
    (hK : ∀ y e, BytFrom F.length (u ++ e) y l → K (y, F ++ (u ++ e))) : appW (.int .u8) 1 (u8 0#8) (.slice k 0 [] (.int .u8) 0 0 (some 0)) x H K := by
  subst hH
  have hbd := hx.bound
  have e0 : (AV.ints .u8 []).join (arr l.length (Bs.g l)) = some (arr l.length (Bs.g l)) := by simp [AV.join, arr, bytes]
  refine ⟨arr l.length (Bs.g l), l.length, hx.1.1, arr_rowLen _ _, .ints .u8 [], _, hs, e0, ?_⟩
  by_cases h0 : l.length = 0
  · have hv : l = [] := List.eq_nil_of_length_eq_zero h0
    subst hv
    refine .inl ⟨h0, Nat.le_refl _, ?_⟩
    have := hK (.slice k 0 [] (.int .u8) 0 0 (some 0)) [] fun F' e hF => ⟨⟨by simpa [arr, bytes] using mElems_behind hF hk hs e, ⟨rfl, Nat.le_refl _, rfl⟩⟩, by simp⟩
    simpa using this
  · refine .inr (.inr ⟨by omega, by omega, by unfold roomBound; omega, by unfold roomBound; omega, by omega, fun c row hc hr => ?_⟩)
    unfold padRow zeroRow u8 at hr
    simp only [BitVec.toNat_ofNat, Nat.zero_mod, Int.ofNat_zero, Nat.zero_add] at hr
    have hr2 : (arr l.length (Bs.g l)).join (.ints .u8 (List.replicate (c - l.length) 0)) = some row := hr
    rw [strip_arr] at hr2
    cases hr2
    simp only [Nat.zero_add] at hc ⊢
    have := hK _ _ (fresh_fromB (F := F) (u := u) (l := l) (c := c) (m := c - l.length) (by omega) hbd)
    rw [List.append_assoc]
    exact this

/-! the front: some cells -/
theorem RowFrom.at1 {h u : Heap} {A0 : Blk} {t : Ty} {y : AV} {vs : List AV} (hr : RowFrom (h.length + 1) u t y vs) (e : Heap) : Row t (h ++ (A0 :: (u ++ e))) y vs := by
  have := hr (h ++ [A0]) e (by simp)
  simpa using this
theorem BytFrom.at1 {h u : Heap} {A0 : Blk} {y : AV} {b : Bs} (hr : BytFrom (h.length + 1) u y b) (e : Heap) : BytL (h ++ (A0 :: (u ++ e))) y b := by
  have := hr (h ++ [A0]) e (by simp)
  simpa using this
theorem RowFrom.to1 {h u e H : Heap} {A0 : Blk} {t : Ty} {y : AV} {vs : List AV} (hr : RowFrom (h.length + 1) u t y vs) (hH : h ++ (A0 :: (u ++ e)) = H) : Row t H y vs := hH ▸ hr.at1 e
theorem BytFrom.to1 {h u e H : Heap} {A0 : Blk} {y : AV} {b : Bs} (hr : BytFrom (h.length + 1) u y b) (hH : h ++ (A0 :: (u ++ e)) = H) : BytL H y b := hH ▸ hr.at1 e
theorem copyR1 {t : Ty} {bytes : Nat} {zero : AV} {h u : Heap} {A0 : Blk} {x : AV} {vs : List AV} {k : Nat} {K : AV × Heap → Prop} (hz : ∀ m, zeroRow m zero = .node (List.replicate m zero))
    (hs : mElems t (.slice k 0 [] t 0 0 (some 0)) (h ++ (A0 :: u)) = some (.node [])) (hx : Row t (h ++ (A0 :: u)) x vs) (hb : vs.length * bytes ≤ roomBound) (hb3 : bytes ≤ 1000000) (hk : h.length + 1 ≤ k)
    (hK : ∀ y e, RowFrom (h.length + 1) (u ++ e) t y vs → K (y, h ++ (A0 :: (u ++ e)))) : appW t bytes zero (.slice k 0 [] t 0 0 (some 0)) x (h ++ (A0 :: u)) K :=
  appW_copyR (F := h ++ [A0]) (u := u) (by simp) hz hs hx hb hb3 (by simpa using hk) fun y e hr => by
    have := hK y e (by simpa using hr)
    simpa using this
theorem copyB1 {h u : Heap} {A0 : Blk} {x : AV} {l : Bs} {k : Nat} {K : AV × Heap → Prop}
    (hs : mElems (.int .u8) (.slice k 0 [] (.int .u8) 0 0 (some 0)) (h ++ (A0 :: u)) = some (.ints .u8 [])) (hx : BytL (h ++ (A0 :: u)) x l) (hk : h.length + 1 ≤ k)
    (hK : ∀ y e, BytFrom (h.length + 1) (u ++ e) y l → K (y, h ++ (A0 :: (u ++ e)))) : appW (.int .u8) 1 (u8 0#8) (.slice k 0 [] (.int .u8) 0 0 (some 0)) x (h ++ (A0 :: u)) K :=
  appW_copyB (F := h ++ [A0]) (u := u) (by simp) hs hx (by simpa using hk) fun y e hr => by
    have := hK y e (by simpa using hr)
    simpa using this
theorem RowFrom.at2 {h u : Heap} {A0 A1 : Blk} {t : Ty} {y : AV} {vs : List AV} (hr : RowFrom (h.length + 2) u t y vs) (e : Heap) : Row t (h ++ (A0 :: A1 :: (u ++ e))) y vs := by
  have := hr (h ++ [A0, A1]) e (by simp)
  simpa using this
theorem BytFrom.at2 {h u : Heap} {A0 A1 : Blk} {y : AV} {b : Bs} (hr : BytFrom (h.length + 2) u y b) (e : Heap) : BytL (h ++ (A0 :: A1 :: (u ++ e))) y b := by
  have := hr (h ++ [A0, A1]) e (by simp)
  simpa using this
theorem RowFrom.to2 {h u e H : Heap} {A0 A1 : Blk} {t : Ty} {y : AV} {vs : List AV} (hr : RowFrom (h.length + 2) u t y vs) (hH : h ++ (A0 :: A1 :: (u ++ e)) = H) : Row t H y vs := hH ▸ hr.at2 e
theorem BytFrom.to2 {h u e H : Heap} {A0 A1 : Blk} {y : AV} {b : Bs} (hr : BytFrom (h.length + 2) u y b) (hH : h ++ (A0 :: A1 :: (u ++ e)) = H) : BytL H y b := hH ▸ hr.at2 e
theorem copyR2 {t : Ty} {bytes : Nat} {zero : AV} {h u : Heap} {A0 A1 : Blk} {x : AV} {vs : List AV} {k : Nat} {K : AV × Heap → Prop} (hz : ∀ m, zeroRow m zero = .node (List.replicate m zero))
    (hs : mElems t (.slice k 0 [] t 0 0 (some 0)) (h ++ (A0 :: A1 :: u)) = some (.node [])) (hx : Row t (h ++ (A0 :: A1 :: u)) x vs) (hb : vs.length * bytes ≤ roomBound) (hb3 : bytes ≤ 1000000) (hk : h.length + 2 ≤ k)
    (hK : ∀ y e, RowFrom (h.length + 2) (u ++ e) t y vs → K (y, h ++ (A0 :: A1 :: (u ++ e)))) : appW t bytes zero (.slice k 0 [] t 0 0 (some 0)) x (h ++ (A0 :: A1 :: u)) K :=
  appW_copyR (F := h ++ [A0, A1]) (u := u) (by simp) hz hs hx hb hb3 (by simpa using hk) fun y e hr => by
    have := hK y e (by simpa using hr)
    simpa using this
theorem copyB2 {h u : Heap} {A0 A1 : Blk} {x : AV} {l : Bs} {k : Nat} {K : AV × Heap → Prop}
    (hs : mElems (.int .u8) (.slice k 0 [] (.int .u8) 0 0 (some 0)) (h ++ (A0 :: A1 :: u)) = some (.ints .u8 [])) (hx : BytL (h ++ (A0 :: A1 :: u)) x l) (hk : h.length + 2 ≤ k)
    (hK : ∀ y e, BytFrom (h.length + 2) (u ++ e) y l → K (y, h ++ (A0 :: A1 :: (u ++ e)))) : appW (.int .u8) 1 (u8 0#8) (.slice k 0 [] (.int .u8) 0 0 (some 0)) x (h ++ (A0 :: A1 :: u)) K :=
  appW_copyB (F := h ++ [A0, A1]) (u := u) (by simp) hs hx (by simpa using hk) fun y e hr => by
    have := hK y e (by simpa using hr)
    simpa using this
theorem RowFrom.at3 {h u : Heap} {A0 A1 A2 : Blk} {t : Ty} {y : AV} {vs : List AV} (hr : RowFrom (h.length + 3) u t y vs) (e : Heap) : Row t (h ++ (A0 :: A1 :: A2 :: (u ++ e))) y vs := by
  have := hr (h ++ [A0, A1, A2]) e (by simp)
  simpa using this
theorem BytFrom.at3 {h u : Heap} {A0 A1 A2 : Blk} {y : AV} {b : Bs} (hr : BytFrom (h.length + 3) u y b) (e : Heap) : BytL (h ++ (A0 :: A1 :: A2 :: (u ++ e))) y b := by
  have := hr (h ++ [A0, A1, A2]) e (by simp)
  simpa using this
theorem RowFrom.to3 {h u e H : Heap} {A0 A1 A2 : Blk} {t : Ty} {y : AV} {vs : List AV} (hr : RowFrom (h.length + 3) u t y vs) (hH : h ++ (A0 :: A1 :: A2 :: (u ++ e)) = H) : Row t H y vs := hH ▸ hr.at3 e
theorem BytFrom.to3 {h u e H : Heap} {A0 A1 A2 : Blk} {y : AV} {b : Bs} (hr : BytFrom (h.length + 3) u y b) (hH : h ++ (A0 :: A1 :: A2 :: (u ++ e)) = H) : BytL H y b := hH ▸ hr.at3 e
theorem copyR3 {t : Ty} {bytes : Nat} {zero : AV} {h u : Heap} {A0 A1 A2 : Blk} {x : AV} {vs : List AV} {k : Nat} {K : AV × Heap → Prop} (hz : ∀ m, zeroRow m zero = .node (List.replicate m zero))
    (hs : mElems t (.slice k 0 [] t 0 0 (some 0)) (h ++ (A0 :: A1 :: A2 :: u)) = some (.node [])) (hx : Row t (h ++ (A0 :: A1 :: A2 :: u)) x vs) (hb : vs.length * bytes ≤ roomBound) (hb3 : bytes ≤ 1000000) (hk : h.length + 3 ≤ k)
    (hK : ∀ y e, RowFrom (h.length + 3) (u ++ e) t y vs → K (y, h ++ (A0 :: A1 :: A2 :: (u ++ e)))) : appW t bytes zero (.slice k 0 [] t 0 0 (some 0)) x (h ++ (A0 :: A1 :: A2 :: u)) K :=
  appW_copyR (F := h ++ [A0, A1, A2]) (u := u) (by simp) hz hs hx hb hb3 (by simpa using hk) fun y e hr => by
    have := hK y e (by simpa using hr)
    simpa using this
theorem copyB3 {h u : Heap} {A0 A1 A2 : Blk} {x : AV} {l : Bs} {k : Nat} {K : AV × Heap → Prop}
    (hs : mElems (.int .u8) (.slice k 0 [] (.int .u8) 0 0 (some 0)) (h ++ (A0 :: A1 :: A2 :: u)) = some (.ints .u8 [])) (hx : BytL (h ++ (A0 :: A1 :: A2 :: u)) x l) (hk : h.length + 3 ≤ k)
    (hK : ∀ y e, BytFrom (h.length + 3) (u ++ e) y l → K (y, h ++ (A0 :: A1 :: A2 :: (u ++ e)))) : appW (.int .u8) 1 (u8 0#8) (.slice k 0 [] (.int .u8) 0 0 (some 0)) x (h ++ (A0 :: A1 :: A2 :: u)) K :=
  appW_copyB (F := h ++ [A0, A1, A2]) (u := u) (by simp) hs hx (by simpa using hk) fun y e hr => by
    have := hK y e (by simpa using hr)
    simpa using this
theorem RowFrom.at4 {h u : Heap} {A0 A1 A2 A3 : Blk} {t : Ty} {y : AV} {vs : List AV} (hr : RowFrom (h.length + 4) u t y vs) (e : Heap) : Row t (h ++ (A0 :: A1 :: A2 :: A3 :: (u ++ e))) y vs := by
  have := hr (h ++ [A0, A1, A2, A3]) e (by simp)
  simpa using this
theorem BytFrom.at4 {h u : Heap} {A0 A1 A2 A3 : Blk} {y : AV} {b : Bs} (hr : BytFrom (h.length + 4) u y b) (e : Heap) : BytL (h ++ (A0 :: A1 :: A2 :: A3 :: (u ++ e))) y b := by
  have := hr (h ++ [A0, A1, A2, A3]) e (by simp)
  simpa using this
theorem RowFrom.to4 {h u e H : Heap} {A0 A1 A2 A3 : Blk} {t : Ty} {y : AV} {vs : List AV} (hr : RowFrom (h.length + 4) u t y vs) (hH : h ++ (A0 :: A1 :: A2 :: A3 :: (u ++ e)) = H) : Row t H y vs := hH ▸ hr.at4 e
theorem BytFrom.to4 {h u e H : Heap} {A0 A1 A2 A3 : Blk} {y : AV} {b : Bs} (hr : BytFrom (h.length + 4) u y b) (hH : h ++ (A0 :: A1 :: A2 :: A3 :: (u ++ e)) = H) : BytL H y b := hH ▸ hr.at4 e
theorem copyR4 {t : Ty} {bytes : Nat} {zero : AV} {h u : Heap} {A0 A1 A2 A3 : Blk} {x : AV} {vs : List AV} {k : Nat} {K : AV × Heap → Prop} (hz : ∀ m, zeroRow m zero = .node (List.replicate m zero))
    (hs : mElems t (.slice k 0 [] t 0 0 (some 0)) (h ++ (A0 :: A1 :: A2 :: A3 :: u)) = some (.node [])) (hx : Row t (h ++ (A0 :: A1 :: A2 :: A3 :: u)) x vs) (hb : vs.length * bytes ≤ roomBound) (hb3 : bytes ≤ 1000000) (hk : h.length + 4 ≤ k)
    (hK : ∀ y e, RowFrom (h.length + 4) (u ++ e) t y vs → K (y, h ++ (A0 :: A1 :: A2 :: A3 :: (u ++ e)))) : appW t bytes zero (.slice k 0 [] t 0 0 (some 0)) x (h ++ (A0 :: A1 :: A2 :: A3 :: u)) K :=
  appW_copyR (F := h ++ [A0, A1, A2, A3]) (u := u) (by simp) hz hs hx hb hb3 (by simpa using hk) fun y e hr => by
    have := hK y e (by simpa using hr)
    simpa using this
theorem copyB4 {h u : Heap} {A0 A1 A2 A3 : Blk} {x : AV} {l : Bs} {k : Nat} {K : AV × Heap → Prop}
    (hs : mElems (.int .u8) (.slice k 0 [] (.int .u8) 0 0 (some 0)) (h ++ (A0 :: A1 :: A2 :: A3 :: u)) = some (.ints .u8 [])) (hx : BytL (h ++ (A0 :: A1 :: A2 :: A3 :: u)) x l) (hk : h.length + 4 ≤ k)
    (hK : ∀ y e, BytFrom (h.length + 4) (u ++ e) y l → K (y, h ++ (A0 :: A1 :: A2 :: A3 :: (u ++ e)))) : appW (.int .u8) 1 (u8 0#8) (.slice k 0 [] (.int .u8) 0 0 (some 0)) x (h ++ (A0 :: A1 :: A2 :: A3 :: u)) K :=
  appW_copyB (F := h ++ [A0, A1, A2, A3]) (u := u) (by simp) hs hx (by simpa using hk) fun y e hr => by
    have := hK y e (by simpa using hr)
    simpa using this
theorem RowFrom.at5 {h u : Heap} {A0 A1 A2 A3 A4 : Blk} {t : Ty} {y : AV} {vs : List AV} (hr : RowFrom (h.length + 5) u t y vs) (e : Heap) : Row t (h ++ (A0 :: A1 :: A2 :: A3 :: A4 :: (u ++ e))) y vs := by
  have := hr (h ++ [A0, A1, A2, A3, A4]) e (by simp)
  simpa using this
theorem BytFrom.at5 {h u : Heap} {A0 A1 A2 A3 A4 : Blk} {y : AV} {b : Bs} (hr : BytFrom (h.length + 5) u y b) (e : Heap) : BytL (h ++ (A0 :: A1 :: A2 :: A3 :: A4 :: (u ++ e))) y b := by
  have := hr (h ++ [A0, A1, A2, A3, A4]) e (by simp)
  simpa using this
theorem RowFrom.to5 {h u e H : Heap} {A0 A1 A2 A3 A4 : Blk} {t : Ty} {y : AV} {vs : List AV} (hr : RowFrom (h.length + 5) u t y vs) (hH : h ++ (A0 :: A1 :: A2 :: A3 :: A4 :: (u ++ e)) = H) : Row t H y vs := hH ▸ hr.at5 e
theorem BytFrom.to5 {h u e H : Heap} {A0 A1 A2 A3 A4 : Blk} {y : AV} {b : Bs} (hr : BytFrom (h.length + 5) u y b) (hH : h ++ (A0 :: A1 :: A2 :: A3 :: A4 :: (u ++ e)) = H) : BytL H y b := hH ▸ hr.at5 e
theorem copyR5 {t : Ty} {bytes : Nat} {zero : AV} {h u : Heap} {A0 A1 A2 A3 A4 : Blk} {x : AV} {vs : List AV} {k : Nat} {K : AV × Heap → Prop} (hz : ∀ m, zeroRow m zero = .node (List.replicate m zero))
    (hs : mElems t (.slice k 0 [] t 0 0 (some 0)) (h ++ (A0 :: A1 :: A2 :: A3 :: A4 :: u)) = some (.node [])) (hx : Row t (h ++ (A0 :: A1 :: A2 :: A3 :: A4 :: u)) x vs) (hb : vs.length * bytes ≤ roomBound) (hb3 : bytes ≤ 1000000) (hk : h.length + 5 ≤ k)
    (hK : ∀ y e, RowFrom (h.length + 5) (u ++ e) t y vs → K (y, h ++ (A0 :: A1 :: A2 :: A3 :: A4 :: (u ++ e)))) : appW t bytes zero (.slice k 0 [] t 0 0 (some 0)) x (h ++ (A0 :: A1 :: A2 :: A3 :: A4 :: u)) K :=
  appW_copyR (F := h ++ [A0, A1, A2, A3, A4]) (u := u) (by simp) hz hs hx hb hb3 (by simpa using hk) fun y e hr => by
    have := hK y e (by simpa using hr)
    simpa using this
theorem copyB5 {h u : Heap} {A0 A1 A2 A3 A4 : Blk} {x : AV} {l : Bs} {k : Nat} {K : AV × Heap → Prop}
    (hs : mElems (.int .u8) (.slice k 0 [] (.int .u8) 0 0 (some 0)) (h ++ (A0 :: A1 :: A2 :: A3 :: A4 :: u)) = some (.ints .u8 [])) (hx : BytL (h ++ (A0 :: A1 :: A2 :: A3 :: A4 :: u)) x l) (hk : h.length + 5 ≤ k)
    (hK : ∀ y e, BytFrom (h.length + 5) (u ++ e) y l → K (y, h ++ (A0 :: A1 :: A2 :: A3 :: A4 :: (u ++ e)))) : appW (.int .u8) 1 (u8 0#8) (.slice k 0 [] (.int .u8) 0 0 (some 0)) x (h ++ (A0 :: A1 :: A2 :: A3 :: A4 :: u)) K :=
  appW_copyB (F := h ++ [A0, A1, A2, A3, A4]) (u := u) (by simp) hs hx (by simpa using hk) fun y e hr => by
    have := hK y e (by simpa using hr)
    simpa using this

theorem RowFrom.to0 {h u e H : Heap} {t : Ty} {y : AV} {vs : List AV} (hr : RowFrom h.length u t y vs) (hH : h ++ (u ++ e) = H) : Row t H y vs := hH ▸ hr h e rfl
theorem BytFrom.to0 {h u e H : Heap} {y : AV} {b : Bs} (hr : BytFrom h.length u y b) (hH : h ++ (u ++ e) = H) : BytL H y b := hH ▸ hr h e rfl
theorem copyR0 {t : Ty} {bytes : Nat} {zero : AV} {h u : Heap} {x : AV} {vs : List AV} {k : Nat} {K : AV × Heap → Prop} (hz : ∀ m, zeroRow m zero = .node (List.replicate m zero))
    (hs : mElems t (.slice k 0 [] t 0 0 (some 0)) (h ++ u) = some (.node [])) (hx : Row t (h ++ u) x vs) (hb : vs.length * bytes ≤ roomBound) (hb3 : bytes ≤ 1000000) (hk : h.length ≤ k)
    (hK : ∀ y e, RowFrom h.length (u ++ e) t y vs → K (y, h ++ (u ++ e))) : appW t bytes zero (.slice k 0 [] t 0 0 (some 0)) x (h ++ u) K :=
  appW_copyR (F := h) (u := u) rfl hz hs hx hb hb3 hk hK
theorem copyB0 {h u : Heap} {x : AV} {l : Bs} {k : Nat} {K : AV × Heap → Prop}
    (hs : mElems (.int .u8) (.slice k 0 [] (.int .u8) 0 0 (some 0)) (h ++ u) = some (.ints .u8 [])) (hx : BytL (h ++ u) x l) (hk : h.length ≤ k)
    (hK : ∀ y e, BytFrom h.length (u ++ e) y l → K (y, h ++ (u ++ e))) : appW (.int .u8) 1 (u8 0#8) (.slice k 0 [] (.int .u8) 0 0 (some 0)) x (h ++ u) K :=
  appW_copyB (F := h) (u := u) rfl hs hx hk hK

/-! rows that are written out -/
@[simp] theorem build0_u8 (h : Heap) : mBuildSlice (.int .u8) (u8 0#8) 0 [] h = some (.slice h.length 0 [] (.int .u8) 0 0 (some 0), h ++ [⟨.ints .u8 [], 0, .own⟩]) := by
  simp [mBuildSlice, fillRow, zeroRow, u8, hasTy]
section
variable (h : Heap) (z x : Seat) (z2 x2 : Inv) (z3 x3 : Ask) (z4 x4 : Ban)
@[simp] theorem build0_Seat : mBuildSlice tSeat (eSeat z) 0 [] h = some (.slice h.length 0 [] tSeat 0 0 (some 0), h ++ [⟨.node [], 0, .own⟩]) := rfl
@[simp] theorem build0_Inv : mBuildSlice tInvite (eInv z2) 0 [] h = some (.slice h.length 0 [] tInvite 0 0 (some 0), h ++ [⟨.node [], 0, .own⟩]) := rfl
@[simp] theorem build0_Ask : mBuildSlice tAsk (eAsk z3) 0 [] h = some (.slice h.length 0 [] tAsk 0 0 (some 0), h ++ [⟨.node [], 0, .own⟩]) := rfl
@[simp] theorem build0_Ban : mBuildSlice tBan (eBan z4) 0 [] h = some (.slice h.length 0 [] tBan 0 0 (some 0), h ++ [⟨.node [], 0, .own⟩]) := rfl
theorem zrow_Seat (m : Nat) : zeroRow m (eSeat z) = .node (List.replicate m (eSeat z)) := rfl
theorem zrow_Inv (m : Nat) : zeroRow m (eInv z2) = .node (List.replicate m (eInv z2)) := rfl
theorem zrow_Ask (m : Nat) : zeroRow m (eAsk z3) = .node (List.replicate m (eAsk z3)) := rfl
theorem zrow_Ban (m : Nat) : zeroRow m (eBan z4) = .node (List.replicate m (eBan z4)) := rfl
end

end Go.Vab

/-
  Requests, replies, and what they are made of. Printed by wip/tools/d5.py (own work).
-/
namespace Go.Vab
open Go

/-- A number that is 16 bytes. -/
structure Id16 where
  l : Bs
  h : l.length = 16
  deriving DecidableEq
def Id16.g (p : Id16) : Nat → BitVec 8 := Bs.g p.l
def eId (p : Id16) : AV := arr 16 p.g
theorem Id16.eq_iff {p q : Id16} : p = q ↔ ∀ i, i < 16 → p.g i = q.g i := by
  constructor
  · rintro rfl _ _; rfl
  · intro h
    have : p.l = q.l := bs_ext (by rw [p.h, q.h]) fun i hi => h i (by rw [p.h] at hi; exact hi)
    cases p; cases q; simp at this; subst this; rfl
@[simp] theorem arrEq_id (p q : Id16) : arrEq 16 p.g q.g = decide (p = q) := by
  rw [Bool.eq_iff_iff, arrEq_iff, decide_eq_true_eq, Id16.eq_iff]
def Id16.of (f : Nat → BitVec 8) : Id16 := ⟨(List.range 16).map f, by simp⟩
theorem Id16.of_g (f : Nat → BitVec 8) {i : Nat} (h : i < 16) : (Id16.of f).g i = f i := by
  simp [Id16.of, Id16.g, Bs.g, List.getD_eq_getElem?_getD, h]
theorem arr_id (f : Nat → BitVec 8) : arr 16 f = eId (Id16.of f) := arr_congr fun i hi => (Id16.of_g f hi).symm
@[simp] theorem hasTy_eId (p : Id16) (k : Nat) : hasTy (eId p) (.arr k (.int .u8)) = decide (16 = k) := hasTy_arr _ _ _
@[simp] theorem mEq_eId (p q : Id16) : mEq (.arr 16 (.int .u8)) .eql (eId p) (eId q) = some (.bool (decide (p = q))) := by
  unfold eId; rw [mEq_arr, arrEq_id]
@[simp] theorem mNe_eId (p q : Id16) : mEq (.arr 16 (.int .u8)) .neq (eId p) (eId q) = some (.bool (!decide (p = q))) := by
  unfold eId; rw [mNe_arr, arrEq_id]

/-- An int that may be anything. -/
def ei (x : Int) : AV := .int .i64 x
@[simp] theorem hasTy_ei (x : Int) (k : IntKind) : hasTy (ei x) (.int k) = decide (IntKind.i64 = k) := by simp [ei, hasTy]
@[simp] theorem bin_ei (x y : Int) : mBin .eql (ei x) (ei y) = some (.bool (decide (x = y))) := by
  simp only [mBin, ei, if_true]
  rfl
@[simp] theorem binN_ei (x y : Int) : mBin .neq (ei x) (ei y) = some (.bool (!decide (x = y))) := by
  simp only [mBin, ei, if_true]
  rfl

structure Prf where
  c : Pt
  s : List Pt
  deriving DecidableEq
structure Pas where
  u : Pt
  c : Pt
  d : Pt
  prf : Prf
  deriving DecidableEq
structure Tie where
  e : Pt
  prf : Prf
  deriving DecidableEq
structure Shw where
  pas : Pas
  tie : Tie
  deriving DecidableEq
structure Vou where
  u : Pt
  c1 : Pt
  c2 : Pt
  c3 : Pt
  d : Pt
  prf : Prf
  deriving DecidableEq
structure Req where
  kind : BitVec 8
  id : Id16
  day : BitVec 32
  key : Ci
  title : Bs
  acc : Acc
  who : Ci
  pass : Bs
  act : Actn
  from_ : BitVec 32
  shown : Shw
  vou : Vou
  deriving DecidableEq
structure Del where
  entry : Bs
  sign : Ci
  deriving DecidableEq
structure Gra where
  tok : Ci
  prf : Prf
  deriving DecidableEq
structure Rep where
  errno : Int
  has : BitVec 8
  state : Stt
  deltas : List Del
  grant : Gra
  deriving DecidableEq
@[simp] theorem hasTy_eSign (c : Ci) : hasTy (eCi c) tSignature = true := hasTy_eCi c
@[simp] theorem hasTy_eTok (c : Ci) : hasTy (eCi c) tToken = true := hasTy_eCi c

def ePrf (c : Pt) (vs : AV) : AV := .node [pt c, vs]
section
variable (c : Pt) (vs : AV) (q : List Nat) (w : AV)
@[simp] theorem hasTy_ePrf : hasTy (ePrf c vs) tProof = hasTy vs .cell := by simp [ePrf, hasTys]
@[simp] theorem ePrf_get0 : (ePrf c vs).get (0 :: q) = (pt c).get q := by simp [ePrf]
@[simp] theorem ePrf_get1 : (ePrf c vs).get (1 :: q) = (vs).get q := by simp [ePrf]
@[simp] theorem ePrf_put1 : (ePrf c vs).put [1] w = some (ePrf c w) := by simp [ePrf]
end
def ePas (u : Pt) (c : Pt) (d : Pt) (x : AV) : AV := .node [pt u, pt c, pt d, x]
section
variable (u : Pt) (c : Pt) (d : Pt) (x : AV) (q : List Nat) (w : AV)
@[simp] theorem hasTy_ePas : hasTy (ePas u c d x) tPass = hasTy x tProof := by simp [ePas, hasTys]
@[simp] theorem ePas_get0 : (ePas u c d x).get (0 :: q) = (pt u).get q := by simp [ePas]
@[simp] theorem ePas_get1 : (ePas u c d x).get (1 :: q) = (pt c).get q := by simp [ePas]
@[simp] theorem ePas_get2 : (ePas u c d x).get (2 :: q) = (pt d).get q := by simp [ePas]
@[simp] theorem ePas_get3 : (ePas u c d x).get (3 :: q) = (x).get q := by simp [ePas]
@[simp] theorem ePas_put3 : (ePas u c d x).put [3] w = some (ePas u c d w) := by simp [ePas]
@[simp] theorem ePas_putn3 (n : Nat) : (ePas u c d x).put (3 :: n :: q) w = bnd (x.put (n :: q) w) fun z_ => some (ePas u c d z_) := by
  simp only [ePas, AV.put, List.getElem?_cons_zero, List.getElem?_cons_succ, List.set_cons_zero, List.set_cons_succ]
  cases x.put (n :: q) w <;> rfl
end
def eTie (e : Pt) (x : AV) : AV := .node [pt e, x]
section
variable (e : Pt) (x : AV) (q : List Nat) (w : AV)
@[simp] theorem hasTy_eTie : hasTy (eTie e x) tTied = hasTy x tProof := by simp [eTie, hasTys]
@[simp] theorem eTie_get0 : (eTie e x).get (0 :: q) = (pt e).get q := by simp [eTie]
@[simp] theorem eTie_get1 : (eTie e x).get (1 :: q) = (x).get q := by simp [eTie]
@[simp] theorem eTie_put1 : (eTie e x).put [1] w = some (eTie e w) := by simp [eTie]
@[simp] theorem eTie_putn1 (n : Nat) : (eTie e x).put (1 :: n :: q) w = bnd (x.put (n :: q) w) fun z_ => some (eTie e z_) := by
  simp only [eTie, AV.put, List.getElem?_cons_zero, List.getElem?_cons_succ, List.set_cons_zero, List.set_cons_succ]
  cases x.put (n :: q) w <;> rfl
end
def eShw (x : AV) (y : AV) : AV := .node [x, y]
section
variable (x : AV) (y : AV) (q : List Nat) (w : AV)
@[simp] theorem hasTy_eShw : hasTy (eShw x y) tShown = (hasTy x tPass && hasTy y tTied) := by simp [eShw, hasTys]
@[simp] theorem eShw_get0 : (eShw x y).get (0 :: q) = (x).get q := by simp [eShw]
@[simp] theorem eShw_put0 : (eShw x y).put [0] w = some (eShw w y) := by simp [eShw]
@[simp] theorem eShw_putn0 (n : Nat) : (eShw x y).put (0 :: n :: q) w = bnd (x.put (n :: q) w) fun z_ => some (eShw z_ y) := by
  simp only [eShw, AV.put, List.getElem?_cons_zero, List.getElem?_cons_succ, List.set_cons_zero, List.set_cons_succ]
  cases x.put (n :: q) w <;> rfl
@[simp] theorem eShw_get1 : (eShw x y).get (1 :: q) = (y).get q := by simp [eShw]
@[simp] theorem eShw_put1 : (eShw x y).put [1] w = some (eShw x w) := by simp [eShw]
@[simp] theorem eShw_putn1 (n : Nat) : (eShw x y).put (1 :: n :: q) w = bnd (y.put (n :: q) w) fun z_ => some (eShw x z_) := by
  simp only [eShw, AV.put, List.getElem?_cons_zero, List.getElem?_cons_succ, List.set_cons_zero, List.set_cons_succ]
  cases y.put (n :: q) w <;> rfl
end
def eVou (u : Pt) (c1 : Pt) (c2 : Pt) (c3 : Pt) (d : Pt) (x : AV) : AV := .node [pt u, pt c1, pt c2, pt c3, pt d, x]
section
variable (u : Pt) (c1 : Pt) (c2 : Pt) (c3 : Pt) (d : Pt) (x : AV) (q : List Nat) (w : AV)
@[simp] theorem hasTy_eVou : hasTy (eVou u c1 c2 c3 d x) tVoucher = hasTy x tProof := by simp [eVou, hasTys]
@[simp] theorem eVou_get0 : (eVou u c1 c2 c3 d x).get (0 :: q) = (pt u).get q := by simp [eVou]
@[simp] theorem eVou_get1 : (eVou u c1 c2 c3 d x).get (1 :: q) = (pt c1).get q := by simp [eVou]
@[simp] theorem eVou_get2 : (eVou u c1 c2 c3 d x).get (2 :: q) = (pt c2).get q := by simp [eVou]
@[simp] theorem eVou_get3 : (eVou u c1 c2 c3 d x).get (3 :: q) = (pt c3).get q := by simp [eVou]
@[simp] theorem eVou_get4 : (eVou u c1 c2 c3 d x).get (4 :: q) = (pt d).get q := by simp [eVou]
@[simp] theorem eVou_get5 : (eVou u c1 c2 c3 d x).get (5 :: q) = (x).get q := by simp [eVou]
@[simp] theorem eVou_put5 : (eVou u c1 c2 c3 d x).put [5] w = some (eVou u c1 c2 c3 d w) := by simp [eVou]
@[simp] theorem eVou_putn5 (n : Nat) : (eVou u c1 c2 c3 d x).put (5 :: n :: q) w = bnd (x.put (n :: q) w) fun z_ => some (eVou u c1 c2 c3 d z_) := by
  simp only [eVou, AV.put, List.getElem?_cons_zero, List.getElem?_cons_succ, List.set_cons_zero, List.set_cons_succ]
  cases x.put (n :: q) w <;> rfl
end
def eReqH (kd : BitVec 8) (id : Id16) (day : BitVec 32) (key : Ci) (vt : AV) (ac : Acc) (who : Ci) (vp : AV) (x : AV) (fr : BitVec 32) (y : AV) (z : AV) : AV := .node [u8 kd, eId id, u32 day, eCi key, vt, eAcc ac, eCi who, vp, x, u32 fr, y, z]
section
variable (kd : BitVec 8) (id : Id16) (day : BitVec 32) (key : Ci) (vt : AV) (ac : Acc) (who : Ci) (vp : AV) (x : AV) (fr : BitVec 32) (y : AV) (z : AV) (q : List Nat) (w : AV)
@[simp] theorem hasTy_eReqH : hasTy (eReqH kd id day key vt ac who vp x fr y z) tRequest = (hasTy vt .cell && (hasTy vp .cell && (hasTy x tAction && (hasTy y tShown && hasTy z tVoucher)))) := by simp [eReqH, hasTys]
@[simp] theorem eReqH_get0 : (eReqH kd id day key vt ac who vp x fr y z).get (0 :: q) = (u8 kd).get q := by simp [eReqH]
@[simp] theorem eReqH_get1 : (eReqH kd id day key vt ac who vp x fr y z).get (1 :: q) = (eId id).get q := by simp [eReqH]
@[simp] theorem eReqH_get2 : (eReqH kd id day key vt ac who vp x fr y z).get (2 :: q) = (u32 day).get q := by simp [eReqH]
@[simp] theorem eReqH_get3 : (eReqH kd id day key vt ac who vp x fr y z).get (3 :: q) = (eCi key).get q := by simp [eReqH]
@[simp] theorem eReqH_get4 : (eReqH kd id day key vt ac who vp x fr y z).get (4 :: q) = (vt).get q := by simp [eReqH]
@[simp] theorem eReqH_put4 : (eReqH kd id day key vt ac who vp x fr y z).put [4] w = some (eReqH kd id day key w ac who vp x fr y z) := by simp [eReqH]
@[simp] theorem eReqH_get5 : (eReqH kd id day key vt ac who vp x fr y z).get (5 :: q) = (eAcc ac).get q := by simp [eReqH]
@[simp] theorem eReqH_get6 : (eReqH kd id day key vt ac who vp x fr y z).get (6 :: q) = (eCi who).get q := by simp [eReqH]
@[simp] theorem eReqH_get7 : (eReqH kd id day key vt ac who vp x fr y z).get (7 :: q) = (vp).get q := by simp [eReqH]
@[simp] theorem eReqH_put7 : (eReqH kd id day key vt ac who vp x fr y z).put [7] w = some (eReqH kd id day key vt ac who w x fr y z) := by simp [eReqH]
@[simp] theorem eReqH_get8 : (eReqH kd id day key vt ac who vp x fr y z).get (8 :: q) = (x).get q := by simp [eReqH]
@[simp] theorem eReqH_put8 : (eReqH kd id day key vt ac who vp x fr y z).put [8] w = some (eReqH kd id day key vt ac who vp w fr y z) := by simp [eReqH]
@[simp] theorem eReqH_putn8 (n : Nat) : (eReqH kd id day key vt ac who vp x fr y z).put (8 :: n :: q) w = bnd (x.put (n :: q) w) fun z_ => some (eReqH kd id day key vt ac who vp z_ fr y z) := by
  simp only [eReqH, AV.put, List.getElem?_cons_zero, List.getElem?_cons_succ, List.set_cons_zero, List.set_cons_succ]
  cases x.put (n :: q) w <;> rfl
@[simp] theorem eReqH_get9 : (eReqH kd id day key vt ac who vp x fr y z).get (9 :: q) = (u32 fr).get q := by simp [eReqH]
@[simp] theorem eReqH_get10 : (eReqH kd id day key vt ac who vp x fr y z).get (10 :: q) = (y).get q := by simp [eReqH]
@[simp] theorem eReqH_put10 : (eReqH kd id day key vt ac who vp x fr y z).put [10] w = some (eReqH kd id day key vt ac who vp x fr w z) := by simp [eReqH]
@[simp] theorem eReqH_putn10 (n : Nat) : (eReqH kd id day key vt ac who vp x fr y z).put (10 :: n :: q) w = bnd (y.put (n :: q) w) fun z_ => some (eReqH kd id day key vt ac who vp x fr z_ z) := by
  simp only [eReqH, AV.put, List.getElem?_cons_zero, List.getElem?_cons_succ, List.set_cons_zero, List.set_cons_succ]
  cases y.put (n :: q) w <;> rfl
@[simp] theorem eReqH_get11 : (eReqH kd id day key vt ac who vp x fr y z).get (11 :: q) = (z).get q := by simp [eReqH]
@[simp] theorem eReqH_put11 : (eReqH kd id day key vt ac who vp x fr y z).put [11] w = some (eReqH kd id day key vt ac who vp x fr y w) := by simp [eReqH]
@[simp] theorem eReqH_putn11 (n : Nat) : (eReqH kd id day key vt ac who vp x fr y z).put (11 :: n :: q) w = bnd (z.put (n :: q) w) fun z_ => some (eReqH kd id day key vt ac who vp x fr y z_) := by
  simp only [eReqH, AV.put, List.getElem?_cons_zero, List.getElem?_cons_succ, List.set_cons_zero, List.set_cons_succ]
  cases z.put (n :: q) w <;> rfl
end
def eDel (vt : AV) (sg : Ci) : AV := .node [vt, eCi sg]
section
variable (vt : AV) (sg : Ci) (q : List Nat) (w : AV)
@[simp] theorem hasTy_eDel : hasTy (eDel vt sg) tDelta = hasTy vt .cell := by simp [eDel, hasTys]
@[simp] theorem eDel_get0 : (eDel vt sg).get (0 :: q) = (vt).get q := by simp [eDel]
@[simp] theorem eDel_put0 : (eDel vt sg).put [0] w = some (eDel w sg) := by simp [eDel]
@[simp] theorem eDel_get1 : (eDel vt sg).get (1 :: q) = (eCi sg).get q := by simp [eDel]
end
def eGra (tk : Ci) (x : AV) : AV := .node [eCi tk, x]
section
variable (tk : Ci) (x : AV) (q : List Nat) (w : AV)
@[simp] theorem hasTy_eGra : hasTy (eGra tk x) tGrant = hasTy x tProof := by simp [eGra, hasTys]
@[simp] theorem eGra_get0 : (eGra tk x).get (0 :: q) = (eCi tk).get q := by simp [eGra]
@[simp] theorem eGra_get1 : (eGra tk x).get (1 :: q) = (x).get q := by simp [eGra]
@[simp] theorem eGra_put1 : (eGra tk x).put [1] w = some (eGra tk w) := by simp [eGra]
@[simp] theorem eGra_putn1 (n : Nat) : (eGra tk x).put (1 :: n :: q) w = bnd (x.put (n :: q) w) fun z_ => some (eGra tk z_) := by
  simp only [eGra, AV.put, List.getElem?_cons_zero, List.getElem?_cons_succ, List.set_cons_zero, List.set_cons_succ]
  cases x.put (n :: q) w <;> rfl
end
def eRepH (en : Int) (ha : BitVec 8) (x : AV) (vd : AV) (y : AV) : AV := .node [ei en, u8 ha, x, vd, y]
section
variable (en : Int) (ha : BitVec 8) (x : AV) (vd : AV) (y : AV) (q : List Nat) (w : AV)
@[simp] theorem hasTy_eRepH : hasTy (eRepH en ha x vd y) tReply = (hasTy x tState && (hasTy vd .cell && hasTy y tGrant)) := by simp [eRepH, hasTys]
@[simp] theorem eRepH_get0 : (eRepH en ha x vd y).get (0 :: q) = (ei en).get q := by simp [eRepH]
@[simp] theorem eRepH_get1 : (eRepH en ha x vd y).get (1 :: q) = (u8 ha).get q := by simp [eRepH]
@[simp] theorem eRepH_get2 : (eRepH en ha x vd y).get (2 :: q) = (x).get q := by simp [eRepH]
@[simp] theorem eRepH_put2 : (eRepH en ha x vd y).put [2] w = some (eRepH en ha w vd y) := by simp [eRepH]
@[simp] theorem eRepH_putn2 (n : Nat) : (eRepH en ha x vd y).put (2 :: n :: q) w = bnd (x.put (n :: q) w) fun z_ => some (eRepH en ha z_ vd y) := by
  simp only [eRepH, AV.put, List.getElem?_cons_zero, List.getElem?_cons_succ, List.set_cons_zero, List.set_cons_succ]
  cases x.put (n :: q) w <;> rfl
@[simp] theorem eRepH_get3 : (eRepH en ha x vd y).get (3 :: q) = (vd).get q := by simp [eRepH]
@[simp] theorem eRepH_put3 : (eRepH en ha x vd y).put [3] w = some (eRepH en ha x w y) := by simp [eRepH]
@[simp] theorem eRepH_get4 : (eRepH en ha x vd y).get (4 :: q) = (y).get q := by simp [eRepH]
@[simp] theorem eRepH_put4 : (eRepH en ha x vd y).put [4] w = some (eRepH en ha x vd w) := by simp [eRepH]
@[simp] theorem eRepH_putn4 (n : Nat) : (eRepH en ha x vd y).put (4 :: n :: q) w = bnd (y.put (n :: q) w) fun z_ => some (eRepH en ha x vd z_) := by
  simp only [eRepH, AV.put, List.getElem?_cons_zero, List.getElem?_cons_succ, List.set_cons_zero, List.set_cons_succ]
  cases y.put (n :: q) w <;> rfl
end

abbrev tPt : Ty := .arr 32 (.int .u8)
abbrev ePf (p : Prf) (v : AV) : AV := ePrf p.c v
abbrev ePa (p : Pas) (v : AV) : AV := ePas p.u p.c p.d (ePf p.prf v)
abbrev eTi (p : Tie) (v : AV) : AV := eTie p.e (ePf p.prf v)
abbrev eSh (p : Shw) (v w : AV) : AV := eShw (ePa p.pas v) (eTi p.tie w)
abbrev eVo (p : Vou) (v : AV) : AV := eVou p.u p.c1 p.c2 p.c3 p.d (ePf p.prf v)
abbrev eReq (r : Req) (vt vp at_ ap s1 s2 s3 : AV) : AV := eReqH r.kind r.id r.day r.key vt r.acc r.who vp (eAct r.act at_ ap) r.from_ (eSh r.shown s1 s2) (eVo r.vou s3)
abbrev eGr (g : Gra) (v : AV) : AV := eGra g.tok (ePf g.prf v)
abbrev eRep (r : Rep) (vt vp vs vi va vb vd sg : AV) : AV := eRepH r.errno r.has (eSt r.state vt vp vs vi va vb) vd (eGr r.grant sg)

/-- Points, in a slice. -/
abbrev Pts (h : Heap) (v : AV) (l : List Pt) : Prop := Row tPt h v (l.map pt)
structure ReqR (h : Heap) (r : Req) (vt vp at_ ap s1 s2 s3 : AV) : Prop where
  t : BytL h vt r.title
  p : BytL h vp r.pass
  a : ActR h r.act at_ ap
  x : Pts h s1 r.shown.pas.prf.s
  y : Pts h s2 r.shown.tie.prf.s
  z : Pts h s3 r.vou.prf.s
/-- Deltas, in a slice, each with bytes of its own. -/
def DelE (h : Heap) (es : List AV) (ds : List Del) : Prop := es.length = ds.length ∧ ∀ (i : Nat) d, ds[i]? = some d → ∃ vt, es[i]? = some (eDel vt d.sign) ∧ BytL h vt d.entry
def Dels (h : Heap) (v : AV) (ds : List Del) : Prop := ∃ es, Row tDelta h v es ∧ DelE h es ds
structure RepR (h : Heap) (r : Rep) (vt vp vs vi va vb vd sg : AV) : Prop where
  s : StR h r.state vt vp vs vi va vb
  d : Dels h vd r.deltas
  g : Pts h sg r.grant.prf.s
theorem ReqR.app {h : Heap} {r : Req} {vt vp at_ ap s1 s2 s3 : AV} (k : ReqR h r vt vp at_ ap s1 s2 s3) (l : Heap) : ReqR (h ++ l) r vt vp at_ ap s1 s2 s3 := ⟨k.t.app l, k.p.app l, k.a.app l, k.x.app l, k.y.app l, k.z.app l⟩
theorem DelE.app {h : Heap} {es : List AV} {ds : List Del} (k : DelE h es ds) (l : Heap) : DelE (h ++ l) es ds := ⟨k.1, fun i d hd => let ⟨vt, h1, h2⟩ := k.2 i d hd; ⟨vt, h1, h2.app l⟩⟩
theorem Dels.app {h : Heap} {v : AV} {ds : List Del} (k : Dels h v ds) (l : Heap) : Dels (h ++ l) v ds := let ⟨es, h1, h2⟩ := k; ⟨es, h1.app l, h2.app l⟩
theorem Dels.len {h : Heap} {v : AV} {ds : List Del} (k : Dels h v ds) : mLenS v = some (nat ds.length) := by
  obtain ⟨es, h1, h2, _⟩ := k
  rw [← h2]; exact h1.len
theorem Dels.bound {h : Heap} {v : AV} {ds : List Del} (k : Dels h v ds) : ds.length ≤ 140737488355328 := by
  obtain ⟨es, h1, h2, _⟩ := k
  rw [← h2]; exact h1.bound
theorem Dels.cell {h : Heap} {v : AV} {ds : List Del} (k : Dels h v ds) : hasTy v .cell = true := let ⟨_, h1, _⟩ := k; h1.cell
theorem RepR.app {h : Heap} {r : Rep} {vt vp vs vi va vb vd sg : AV} (k : RepR h r vt vp vs vi va vb vd sg) (l : Heap) : RepR (h ++ l) r vt vp vs vi va vb vd sg := ⟨k.s.app l, k.d.app l, k.g.app l⟩
theorem ReqR.cells {h : Heap} {r : Req} {vt vp at_ ap s1 s2 s3 : AV} (k : ReqR h r vt vp at_ ap s1 s2 s3) : hasTy vt .cell = true ∧ hasTy vp .cell = true ∧ (hasTy at_ .cell = true ∧ hasTy ap .cell = true) ∧ hasTy s1 .cell = true ∧ hasTy s2 .cell = true ∧ hasTy s3 .cell = true :=
  ⟨k.t.cell, k.p.cell, k.a.cells, k.x.cell, k.y.cell, k.z.cell⟩
theorem RepR.cells {h : Heap} {r : Rep} {vt vp vs vi va vb vd sg : AV} (k : RepR h r vt vp vs vi va vb vd sg) : (hasTy vt .cell = true ∧ hasTy vp .cell = true ∧ hasTy vs .cell = true ∧ hasTy vi .cell = true ∧ hasTy va .cell = true ∧ hasTy vb .cell = true) ∧ hasTy vd .cell = true ∧ hasTy sg .cell = true :=
  ⟨k.s.cells, k.d.cell, k.g.cell⟩

end Go.Vab
